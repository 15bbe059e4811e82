/- Walks of the references; the orders agree; examples. -/
import Derived.Test.YtpfhgnccpiildaaGreatGh
set_option linter.unusedSimpArgs false
set_option linter.unusedVariables false
namespace Go.Proofs.YtpfhgnccpiildaaGreat
open Go Go.Tx Go.Proofs.Tryz
set_option maxRecDepth 100000
set_option maxHeartbeats 0
abbrev q389:List Pk:=[.row qj5 true]
abbrev q38a:Type:=qj6×Unit
abbrev q38b:Type:=Bool
def q38c (r:q38b):LV×List Ob:=(.bool r,[])
def q38d (F:q38a→Option q38b):Go.Tx.Spec:=⟨24,q389,q38b,F,q38c⟩
abbrev q38e:Type:=Unit
def q38f (_d:Nat):q38e:=()
def q38g (C:q38e):List Go.Tx.Spec:=[]
abbrev q38h:Type:=List Diii
def q38i (v:q38h):St:=⟨[(0,.agg [.fz Riii v])],[]⟩
abbrev q38j:Type:=List Diii
def q38k (v:q38j):St:=⟨[(1,.ptr 0 0)],[.cells [.fz Riii v]]⟩
def q38l (C:q38e) (v:q38h):Dt q38j:=(Dt.ret v)
abbrev q40t {V Y:Type}:=@rg q38e V Y tysT (fun C=>(orc (q38g C))) 19
theorem q38m C v:q40t (regO (qct f24) 0) false [(1,(.box [.val Riii]))] q38i q38l q38k C v:=rgI (by kernel_rfl)
abbrev q38n:Type:=Bool
def q38o (v:q38n):St:=⟨[(2,.bool v)],[]⟩
def q38p (C:q38e) (v:q38j):Dt q38n:=(Dt.ite (decide ((List.length v:Int) > (16:Int))) (Dt.ite (decide ((List.length v:Int)≤(64:Int))) (Dt.ret true) (Dt.ret (decide ((List.length v:Int) > (70:Int))))) (Dt.ret (decide ((List.length v:Int) > (70:Int)))))
theorem q38q C v:q40t (regO (qct f24) 1) false [(2,.any)] q38k q38p q38o C v:=rgI (by kernel_rfl)
def q38r (d:Nat) (x:q38a):Option q38b :=
 (q38l (q38f d) x.1.1).eval fun y0 =>
 (q38p (q38f d) y0).eval fun y1 =>
 some y1
theorem q38s (d:Nat):COK prog (q38d (q38r d)):=by
 have hm:prog.follows .mixedOrders=true:=mixed
 have hT:=tys
 have hC0:OrcOK prog (orc (q38g (q38f d))):=qcn (by
  intro S hS
  simp only [q38g,List.mem_cons,List.not_mem_nil,or_false] at hS
  all_goals first | cases hS | exact hS.elim)
 have hC:OrcOK prog (orc (q38g (q38f d))):=hC0
 refine q8c (c:=qct f24) (fn:=f24) hT (by kernel_rfl) (by kernel_rfl) (by decide) fun x r h w0 φ0 Q hend=>?_
 replace h:q38r d x=some r:=h
 unfold q38r at h
 show Run prog w0 φ0 19 (qct f24) ⟨[(0,.agg [.fz Riii x.1.1])],[]⟩ Q
 refine q3yo hm hT hC (q38m (q38f d) x.1.1) h fun y0 h=>?_
 refine q3yo hm hT hC (q38q (q38f d) y0) h fun y1 h=>?_
 refine q7v ?_
 cases h
 exact (hend _ (by kernel_rfl)).2
abbrev q3ax:List Pk:=[]
abbrev q3ay:Type:=Unit
abbrev q3az:Type:=List Diii
def q3b0 (r:q3az):LV×List Ob:=(.agg [.rs 0],[.rows Riii r])
def q3b1 (F:q3ay→Option q3az):Go.Tx.Spec:=⟨84,q3ax,q3az,F,q3b0⟩
abbrev q3b2:Type:=Unit
def q3b3 (_d:Nat):q3b2:=()
def q3b4 (C:q3b2):List Go.Tx.Spec:=[]
abbrev q3b5:Type:=Unit
def q3b6 (v:q3b5):St:=⟨[],[]⟩
abbrev q3b7:Type:=List Diii
def q3b8 (v:q3b7):St:=⟨[(0,.ptr 0 0)],[.cells [.rs 1],.rows Riii v]⟩
def q3b9 (C:q3b2) (v:q3b5):Dt q3b7:=(Dt.ret ([]:List Diii))
abbrev q40v {V Y:Type}:=@rg q3b2 V Y tysT (fun C=>(orc (q3b4 C))) 6
theorem q3ba C v:q40v (regO (qct f84) 0) false [(0,(.box [.own Riii]))] q3b6 q3b9 q3b8 C v:=rgI (by kernel_rfl)
def q3bb (C:q3b2) (v:q3b7):Dt q3b7:=(Dt.ret ([((1:Int),(0:Int),(2:Int),()),((2:Int),(6:Int),(-1:Int),()),((5:Int),(0:Int),(0:Int),())]:List Diii))
theorem q3bc C v:q40v (regO (qct f84) 1) false [(0,(.box [.own Riii]))] q3b8 q3bb q3b8 C v:=rgI (by kernel_rfl)
def q3bd (d:Nat) (x:q3ay):Option q3az :=
 (q3b9 (q3b3 d) ()).eval fun y0 =>
 (q3bb (q3b3 d) y0).eval fun y1 =>
 some y1
theorem q3be (d:Nat):COK prog (q3b1 (q3bd d)):=by
 have hm:prog.follows .mixedOrders=true:=mixed
 have hT:=tys
 have hC0:OrcOK prog (orc (q3b4 (q3b3 d))):=qcn (by
  intro S hS
  simp only [q3b4,List.mem_cons,List.not_mem_nil,or_false] at hS
  all_goals first | cases hS | exact hS.elim)
 have hC:OrcOK prog (orc (q3b4 (q3b3 d))):=hC0
 refine q8c (c:=qct f84) (fn:=f84) hT (by kernel_rfl) (by kernel_rfl) (by decide) fun x r h w0 φ0 Q hend=>?_
 replace h:q3bd d x=some r:=h
 unfold q3bd at h
 show Run prog w0 φ0 6 (qct f84) ⟨[],[]⟩ Q
 refine q3yo hm hT hC (q3ba (q3b3 d) ()) h fun y0 h=>?_
 refine q3yo hm hT hC (q3bc (q3b3 d) y0) h fun y1 h=>?_
 refine q7v ?_
 cases h
 exact (hend _ (by kernel_rfl)).2
abbrev q3bf:List Pk:=[.row Ri false]
abbrev q3bg:Type:=Di×Unit
abbrev q3bh:Type:=Int×Int
def q3bi (r:q3bh):LV×List Ob:=(.agg [.int .i64 r.1,.int .i64 r.2],[])
def q3bj (F:q3bg→Option q3bh):Go.Tx.Spec:=⟨42,q3bf,q3bh,F,q3bi⟩
abbrev q3bk:Type:=Unit
def q3bl (_d:Nat):q3bk:=()
def q3bm (C:q3bk):List Go.Tx.Spec:=[]
abbrev q3bn:Type:=Int
def q3bo (v:q3bn):St:=⟨[(0,i6 v)],[]⟩
abbrev q3bp:Type:=Int×Int×Int
def q3bq (v:q3bp):St:=⟨[(0,i6 v.1),(2,.ptr 0 0)],[.cells [i6 v.2.1,i6 v.2.2]]⟩
def q3br (C:q3bk) (v:q3bn):Dt q3bp:=(Dt.ret (v,(0:Int),(0:Int)))
abbrev q40w {V Y:Type}:=@rg q3bk V Y tysT (fun C=>(orc (q3bm C))) 5
theorem q3bs C v:q40w (regO (qct f42) 0) false (an [0,2]) q3bo q3br q3bq C v:=rgI (by kernel_rfl)
abbrev q3bt:Type:=Int×Int
def q3bu (v:q3bt):St:=⟨[(2,.ptr 0 0)],[.cells [i6 v.1,i6 v.2]]⟩
def q3bv (C:q3bk) (v:q3bp):Dt q3bt:=(Dt.ret (v.1,(1:Int)))
theorem q3bw C v:q40w (regO (qct f42) 1) false [(2,.any)] q3bq q3bv q3bu C v:=rgI (by kernel_rfl)
def q3bx (d:Nat) (x:q3bg):Option q3bh :=
 (q3br (q3bl d) x.1.1).eval fun y0 =>
 (q3bv (q3bl d) y0).eval fun y1 =>
 some y1
theorem q3by (d:Nat):COK prog (q3bj (q3bx d)):=by
 have hm:prog.follows .mixedOrders=true:=mixed
 have hT:=tys
 have hC0:OrcOK prog (orc (q3bm (q3bl d))):=qcn (by
  intro S hS
  simp only [q3bm,List.mem_cons,List.not_mem_nil,or_false] at hS
  all_goals first | cases hS | exact hS.elim)
 have hC:OrcOK prog (orc (q3bm (q3bl d))):=hC0
 refine q8c (c:=qct f42) (fn:=f42) hT (by kernel_rfl) (by kernel_rfl) (by decide) fun x r h w0 φ0 Q hend=>?_
 replace h:q3bx d x=some r:=h
 unfold q3bx at h
 show Run prog w0 φ0 5 (qct f42) ⟨[(0,.int .i64 x.1.1)],[]⟩ Q
 refine q3yo hm hT hC (q3bs (q3bl d) x.1.1) h fun y0 h=>?_
 refine q3yo hm hT hC (q3bw (q3bl d) y0) h fun y1 h=>?_
 refine q7v ?_
 cases h
 exact (hend _ (by kernel_rfl)).2
abbrev q3bz:List Pk:=[]
abbrev q3c0:Type:=Unit
abbrev q3c1:Type:=Bool
def q3c2 (r:q3c1):LV×List Ob:=(.bool r,[])
def q3c3 (F:q3c0→Option q3c1):Go.Tx.Spec:=⟨38,q3bz,q3c1,F,q3c2⟩
abbrev q3c4:Type:=(q2dy→Option q2dz)×(q2ew→Option q2ex)×(q2ge→Option q2gf)×(q2iy→Option q2iz)×(q2m0→Option q2m1)×(q36w→Option q36x)×(q3bg→Option q3bh)×(q3ay→Option q3az)×Unit
def q3c5 (d:Nat):q3c4:=(q2et d,q2gb d,q2h9 d,q2ka d,q2nu d,q37y d,q3bx d,q3bd d,())
def q3c6 (C:q3c4):List Go.Tx.Spec:=[q2e1 C.1,q2ez C.2.1,q2gh C.2.2.1,q2j1 C.2.2.2.1,q2m3 C.2.2.2.2.1,q36z C.2.2.2.2.2.1,q3bj C.2.2.2.2.2.2.1,q3b1 C.2.2.2.2.2.2.2.1]
abbrev q3c7:Type:=Unit
def q3c8 (v:q3c7):St:=⟨[],[]⟩
def q3c9 (C:q3c4) (v:q3c7):Dt q3c7:=(Dt.ret ())
abbrev q40x {V Y:Type}:=@rg q3c4 V Y tysT (fun C=>(orc (q3c6 C))) 101
theorem q3ca C v:q40x (regO (qct f38) 0) false [] q3c8 q3c9 q3c8 C v:=rgI (by kernel_rfl)
abbrev q3cb:Type:=List Diii
def q3cc (v:q3cb):St:=⟨[(1,.ptr 0 0)],[.cells [.rs 1],.rows Riii v]⟩
def q3cd (C:q3c4) (v:q3c7):Dt q3cb:=(Dt.bnd (C.2.2.2.2.2.2.2.1 (())) fun r1=>(Dt.ret r1))
theorem q3ce C v:q40x (regO (qct f38) 1) false [(1,(.box [.own Riii]))] q3c8 q3cd q3cc C v:=rgI (by kernel_rfl)
abbrev q3cf:Type:=Int×Int×Int×List Diii
def q3cg (v:q3cf):St:=⟨[(1,.ptr 0 0),(2,i6 v.1),(3,i6 v.2.1),(4,i6 v.2.2.1)],[.cells [.rs 1],.rows Riii v.2.2.2]⟩
def q3ch (C:q3c4) (v:q3cb):Dt q3cf:=(Dt.bnd (C.2.2.2.2.2.2.1 (((0:Int),()),())) fun r1=>(Dt.bnd (C.1 ((v,()),(r1.1,r1.2,()),())) fun r2=>(Dt.ret (r2.1,r2.2.1,r2.2.2,v))))
theorem q3ci C v:q40x (regO (qct f38) 2) true [(1,(.box [.own Riii])),(2,.any),(3,.any),(4,.any)] q3cc q3ch q3cg C v:=rgI (by kernel_rfl)
abbrev q3cj:Type:=Int×Int×Int×Int×List Diii×Int×Int
def q3ck (v:q3cj):St:=⟨[(1,.ptr 0 0),(2,i6 v.1),(3,i6 v.2.1),(4,i6 v.2.2.1),(5,.ptr 2 0),(6,i6 v.2.2.2.1)],[.cells [.rs 1],.rows Riii v.2.2.2.2.1,.cells [i6 v.2.2.2.2.2.1,i6 v.2.2.2.2.2.2]]⟩
def q3cl (C:q3c4) (v:q3cf):Dt q3cj:=(Dt.bnd (C.2.2.2.2.2.2.1 (((0:Int),()),())) fun r1=>(Dt.bnd (C.2.1 ((v.2.2.2,()),(r1.1,r1.2,()),())) fun r2=>(Dt.ret (v.1,v.2.1,v.2.2.1,r2.2.2,v.2.2.2,r2.1,r2.2.1))))
theorem q3cm C v:q40x (regO (qct f38) 3) true [(1,(.box [.own Riii])),(2,.any),(3,.any),(4,.any),(5,.any),(6,.any)] q3cg q3cl q3ck C v:=rgI (by kernel_rfl)
abbrev q3cn:Type:=Int×Int×Int×Int×Int×Int×List Diii×Int×Int
def q3co (v:q3cn):St:=⟨[(1,.ptr 0 0),(2,i6 v.1),(3,i6 v.2.1),(4,i6 v.2.2.1),(5,.ptr 2 0),(6,i6 v.2.2.2.1),(7,i6 v.2.2.2.2.1),(8,i6 v.2.2.2.2.2.1)],[.cells [.rs 1],.rows Riii v.2.2.2.2.2.2.1,.cells [i6 v.2.2.2.2.2.2.2.1,i6 v.2.2.2.2.2.2.2.2]]⟩
def q3cp (C:q3c4) (v:q3cj):Dt q3cn:=(Dt.bnd (C.2.2.2.2.2.2.1 (((0:Int),()),())) fun r1=>(Dt.bnd (C.2.2.1 ((v.2.2.2.2.1,()),(r1.1,r1.2,()),())) fun r2=>(Dt.ret (v.1,v.2.1,v.2.2.1,v.2.2.2.1,r2.1,r2.2,v.2.2.2.2.1,v.2.2.2.2.2.1,v.2.2.2.2.2.2))))
theorem q3cq C v:q40x (regO (qct f38) 4) true [(1,(.box [.own Riii])),(2,.any),(3,.any),(4,.any),(5,.any),(6,.any),(7,.any),(8,.any)] q3ck q3cp q3co C v:=rgI (by kernel_rfl)
abbrev q3cr:Type:=Int×Int×Int×Int×Int×Int×Int×List Diii×Int×Int×List Dii
def q3cs (v:q3cr):St:=⟨[(1,.ptr 0 0),(2,i6 v.1),(3,i6 v.2.1),(4,i6 v.2.2.1),(5,.ptr 2 0),(6,i6 v.2.2.2.1),(7,i6 v.2.2.2.2.1),(8,i6 v.2.2.2.2.2.1),(9,.rs 3),(10,i6 v.2.2.2.2.2.2.1)],[.cells [.rs 1],.rows Riii v.2.2.2.2.2.2.2.1,.cells [i6 v.2.2.2.2.2.2.2.2.1,i6 v.2.2.2.2.2.2.2.2.2.1],.rows Rii v.2.2.2.2.2.2.2.2.2.2]⟩
def q3ct (C:q3c4) (v:q3cn):Dt q3cr:=(Dt.bnd (C.2.2.2.2.2.2.1 (((0:Int),()),())) fun r1=>(Dt.bnd (C.2.2.2.2.2.2.1 (((10:Int),()),())) fun r2=>(Dt.bnd (C.2.2.2.1 ((v.2.2.2.2.2.2.1,()),(r1.1,r1.2,()),(r2.1,r2.2,()),())) fun r3=>(Dt.ret (v.1,v.2.1,v.2.2.1,v.2.2.2.1,v.2.2.2.2.1,v.2.2.2.2.2.1,r3.2,v.2.2.2.2.2.2.1,v.2.2.2.2.2.2.2.1,v.2.2.2.2.2.2.2.2,r3.1)))))
theorem q3cu C v:q40x (regO (qct f38) 5) true [(1,(.box [.own Riii])),(2,.any),(3,.any),(4,.any),(5,.any),(6,.any),(7,.any),(8,.any),(9,(.own Rii)),(10,.any)] q3co q3ct q3cs C v:=rgI (by kernel_rfl)
abbrev q3cv:Type:=Int×Int×Int×Int×Int×Int×Int×Int×Int×Int×List Dii×Int×Int×Int×Int
def q3cw (v:q3cv):St:=⟨[(2,i6 v.1),(3,i6 v.2.1),(4,i6 v.2.2.1),(5,.ptr 0 0),(6,i6 v.2.2.2.1),(7,i6 v.2.2.2.2.1),(8,i6 v.2.2.2.2.2.1),(9,.rs 1),(10,i6 v.2.2.2.2.2.2.1),(11,.ptr 2 0),(12,.ptr 3 0),(13,i6 v.2.2.2.2.2.2.2.1)],[.cells [i6 v.2.2.2.2.2.2.2.2.1,i6 v.2.2.2.2.2.2.2.2.2.1],.rows Rii v.2.2.2.2.2.2.2.2.2.2.1,.cells [i6 v.2.2.2.2.2.2.2.2.2.2.2.1,i6 v.2.2.2.2.2.2.2.2.2.2.2.2.1],.cells [i6 v.2.2.2.2.2.2.2.2.2.2.2.2.2.1,i6 v.2.2.2.2.2.2.2.2.2.2.2.2.2.2]]⟩
def q3cx (C:q3c4) (v:q3cr):Dt q3cv:=(Dt.bnd (C.2.2.2.2.2.2.1 (((0:Int),()),())) fun r1=>(Dt.bnd (C.2.2.2.2.2.2.1 (((10:Int),()),())) fun r2=>(Dt.bnd (C.2.2.2.2.1 ((v.2.2.2.2.2.2.2.1,()),(r1.1,r1.2,()),(r2.1,r2.2,()),())) fun r3=>(Dt.ret (v.1,v.2.1,v.2.2.1,v.2.2.2.1,v.2.2.2.2.1,v.2.2.2.2.2.1,v.2.2.2.2.2.2.1,r3.2.2.2.2,v.2.2.2.2.2.2.2.2.1,v.2.2.2.2.2.2.2.2.2.1,v.2.2.2.2.2.2.2.2.2.2,r3.1,r3.2.1,r3.2.2.1,r3.2.2.2.1)))))
theorem q3cy C v:q40x (regO (qct f38) 6) true [(2,.any),(3,.any),(4,.any),(5,.any),(6,.any),(7,.any),(8,.any),(9,(.own Rii)),(10,.any),(11,.any),(12,.any),(13,.any)] q3cs q3cx q3cw C v:=rgI (by kernel_rfl)
abbrev q3cz:Type:=Bool
def q3d0 (v:q3cz):St:=⟨[(0,.bool v)],[]⟩
def q3d1 (C:q3c4) (v:q3cv):Dt q3cz:=(Dt.ite (v.2.2.1 == (0:Int)) (Dt.ite (v.1 == (2:Int)) (Dt.ite (v.2.1 == (5:Int)) (Dt.ite (v.2.2.2.1 == (0:Int)) (Dt.bnd (C.2.2.2.2.2.2.1 (((6:Int),()),())) fun r1=>(Dt.ite ((v.2.2.2.2.2.2.2.2.1 == r1.1)&&((v.2.2.2.2.2.2.2.2.2.1 == r1.2)&&true)) (Dt.ite (v.2.2.2.2.2.1 == (0:Int)) (Dt.ite (v.2.2.2.2.1 == (-1:Int)) (Dt.ite (v.2.2.2.2.2.2.1 == (0:Int)) (Dt.bnd (C.2.2.2.2.2.2.1 (((2:Int),()),())) fun r2=>(Dt.bnd (C.2.2.2.2.2.2.1 (((6:Int),()),())) fun r3=>(Dt.bnd (C.2.2.2.2.2.1 ((v.2.2.2.2.2.2.2.2.2.2.1,()),(([(r2.1,r2.2,()),(r3.1,r3.2,())]:List Dii),()),())) fun r4=>(Dt.ite r4 (Dt.ite (v.2.2.2.2.2.2.2.1 == (0:Int)) (Dt.bnd (C.2.2.2.2.2.2.1 (((2:Int),()),())) fun r5=>(Dt.ite ((v.2.2.2.2.2.2.2.2.2.2.2.1 == r5.1)&&((v.2.2.2.2.2.2.2.2.2.2.2.2.1 == r5.2)&&true)) (Dt.bnd (C.2.2.2.2.2.2.1 (((4:Int),()),())) fun r6=>(Dt.ret ((v.2.2.2.2.2.2.2.2.2.2.2.2.2.1 == r6.1)&&((v.2.2.2.2.2.2.2.2.2.2.2.2.2.2 == r6.2)&&true)))) (Dt.ret false))) (Dt.ret false)) (Dt.ret false))))) (Dt.ret false)) (Dt.ret false)) (Dt.ret false)) (Dt.ret false))) (Dt.ret false)) (Dt.ret false)) (Dt.ret false)) (Dt.ret false))
theorem q3d2 C v:q40x (regO (qct f38) 7) true [(0,.any)] q3cw q3d1 q3d0 C v:=rgI (by kernel_rfl)
def q3d3 (d:Nat) (x:q3c0):Option q3c1 :=
 (q3c9 (q3c5 d) ()).eval fun y0 =>
 (q3cd (q3c5 d) ()).eval fun y1 =>
 (q3ch (q3c5 d) y1).eval fun y2 =>
 (q3cl (q3c5 d) y2).eval fun y3 =>
 (q3cp (q3c5 d) y3).eval fun y4 =>
 (q3ct (q3c5 d) y4).eval fun y5 =>
 (q3cx (q3c5 d) y5).eval fun y6 =>
 (q3d1 (q3c5 d) y6).eval fun y7 =>
 some y7
theorem q3d4 (d:Nat):COK prog (q3c3 (q3d3 d)):=by
 have hm:prog.follows .mixedOrders=true:=mixed
 have hT:=tys
 have hC0:OrcOK prog (orc (q3c6 (q3c5 d))):=qcn (by
  intro S hS
  simp only [q3c6,List.mem_cons,List.not_mem_nil,or_false] at hS
  rcases hS with rfl | rfl | rfl | rfl | rfl | rfl | rfl | rfl
  · exact q2eu d
  · exact q2gc d
  · exact q2ha d
  · exact q2kb d
  · exact q2nv d
  · exact q37z d
  · exact q3by d
  · exact q3be d)
 have hC:OrcOK prog (orc (q3c6 (q3c5 d))):=hC0
 refine q8c (c:=qct f38) (fn:=f38) hT (by kernel_rfl) (by kernel_rfl) (by decide) fun x r h w0 φ0 Q hend=>?_
 replace h:q3d3 d x=some r:=h
 unfold q3d3 at h
 show Run prog w0 φ0 101 (qct f38) ⟨[],[]⟩ Q
 refine q3yo hm hT hC (q3ca (q3c5 d) ()) h fun y0 h=>?_
 refine q3yo hm hT hC (q3ce (q3c5 d) ()) h fun y1 h=>?_
 refine q3yo hm hT hC (q3ci (q3c5 d) y1) h fun y2 h=>?_
 refine q3yo hm hT hC (q3cm (q3c5 d) y2) h fun y3 h=>?_
 refine q3yo hm hT hC (q3cq (q3c5 d) y3) h fun y4 h=>?_
 refine q3yo hm hT hC (q3cu (q3c5 d) y4) h fun y5 h=>?_
 refine q3yo hm hT hC (q3cy (q3c5 d) y5) h fun y6 h=>?_
 refine q3yo hm hT hC (q3d2 (q3c5 d) y6) h fun y7 h=>?_
 refine q7v ?_
 cases h
 exact (hend _ (by kernel_rfl)).2
abbrev q3d5:List Pk:=[.row qj5 true,.row Rii true,.row Rii true]
abbrev q3d6:Type:=qj6×Dii×Dii×Unit
abbrev q3d7:Type:=Bool
def q3d8 (r:q3d7):LV×List Ob:=(.bool r,[])
def q3d9 (F:q3d6→Option q3d7):Go.Tx.Spec:=⟨7,q3d5,q3d7,F,q3d8⟩
abbrev q3da:Type:=(q2pz→Option q2q0)×(q2ac→Option q2ad)×(q38a→Option q38b)×(q2ge→Option q2gf)×(q2iy→Option q2iz)×(q3c0→Option q3c1)×Unit
def q3db (d:Nat):q3da:=(q2r6 d,q2bb d,q38r d,q2h9 d,q2ka d,q3d3 d,())
def q3dc (C:q3da):List Go.Tx.Spec:=[q2q2 C.1,q2af C.2.1,q38d C.2.2.1,q2gh C.2.2.2.1,q2j1 C.2.2.2.2.1,q3c3 C.2.2.2.2.2.1]
abbrev q3dd:Type:=List Diii×Int×Int×Int×Int
def q3de (v:q3dd):St:=⟨[(0,.agg [.fz Riii v.1]),(1,.agg [i6 v.2.1,i6 v.2.2.1]),(2,.agg [i6 v.2.2.2.1,i6 v.2.2.2.2])],[]⟩
abbrev q3df:Type:=List Diii×Int×Int×Int×Int
def q3dg (v:q3df):St:=⟨[(3,.ptr 0 0),(4,.ptr 1 0),(5,.ptr 2 0)],[.cells [.fz Riii v.1],.cells [i6 v.2.1,i6 v.2.2.1],.cells [i6 v.2.2.2.1,i6 v.2.2.2.2]]⟩
def q3dh (C:q3da) (v:q3dd):Dt q3df:=(Dt.ret (v.1,v.2.1,v.2.2.1,v.2.2.2.1,v.2.2.2.2))
abbrev q40y {V Y:Type}:=@rg q3da V Y tysT (fun C=>(orc (q3dc C))) 138
theorem q3di C v:q40y (regO (qct f7) 0) false [(3,(.box [.val Riii])),(4,.any),(5,.any)] q3de q3dh q3dg C v:=rgI (by kernel_rfl)
abbrev q3dj:Type:=Bool×List Diii×Int×Int×Int×Int
def q3dk (v:q3dj):St:=⟨[(3,.ptr 0 0),(4,.ptr 1 0),(5,.ptr 2 0),(7,.bool v.1)],[.cells [.fz Riii v.2.1],.cells [i6 v.2.2.1,i6 v.2.2.2.1],.cells [i6 v.2.2.2.2.1,i6 v.2.2.2.2.2]]⟩
def q3dl (C:q3da) (v:q3df):Dt q3dj:=(Dt.bnd (C.2.2.2.2.2.1 (())) fun r1=>(Dt.ret (r1,v.1,v.2.1,v.2.2.1,v.2.2.2.1,v.2.2.2.2)))
theorem q3dm C v:q40y (regO (qct f7) 1) false [(3,(.box [.val Riii])),(4,.any),(5,.any),(7,.any)] q3dg q3dl q3dk C v:=rgI (by kernel_rfl)
abbrev q3dn:Type:=Bool×Bool×List Diii×Int×Int×Int×Int
def q3do (v:q3dn):St:=⟨[(3,.ptr 0 0),(4,.ptr 1 0),(5,.ptr 2 0),(7,.bool v.1),(39,.bool v.2.1)],[.cells [.fz Riii v.2.2.1],.cells [i6 v.2.2.2.1,i6 v.2.2.2.2.1],.cells [i6 v.2.2.2.2.2.1,i6 v.2.2.2.2.2.2]]⟩
def q3dp (C:q3da) (v:q3dj):Dt q3dn:=(Dt.bnd (C.2.2.1 ((v.2.1,()),())) fun r1=>(Dt.ite r1 (Dt.ret (v.1,true,v.2.1,v.2.2.1,v.2.2.2.1,v.2.2.2.2.1,v.2.2.2.2.2)) (Dt.bnd (C.1 ((v.2.1,()),(v.2.2.1,v.2.2.2.1,()),(v.2.2.2.2.1,v.2.2.2.2.2,()),())) fun r2=>(Dt.ite (r2 != (0:Int)) (Dt.ret (v.1,true,v.2.1,v.2.2.1,v.2.2.2.1,v.2.2.2.2.1,v.2.2.2.2.2)) (Dt.ite ((List.length v.2.1:Int) == (0:Int)) (Dt.ret (v.1,true,v.2.1,v.2.2.1,v.2.2.2.1,v.2.2.2.2.1,v.2.2.2.2.2)) (Dt.ret (v.1,(!v.1),v.2.1,v.2.2.1,v.2.2.2.1,v.2.2.2.2.1,v.2.2.2.2.2)))))))
theorem q3dq C v:q40y (regO (qct f7) 2) false [(3,(.box [.val Riii])),(4,.any),(5,.any),(7,.any),(39,.any)] q3dk q3dp q3do C v:=rgI (by kernel_rfl)
abbrev q3dr:Type:=Bool
def q3ds (v:q3dr):St:=⟨[(6,.bool v)],[]⟩
def q3dt (C:q3da) (v:q3dn):Dt q3dr:=(Dt.ret v.1)
theorem q3du C v:q40y (regO (qct f7) 3) false [(6,.any)] q3do q3dt q3ds C v:=rgI (by kernel_rfl)
abbrev q3dv:Type:=Bool×Int×List Diii×Int×Int×Int×Int×List Dii
def q3dw (v:q3dv):St:=⟨[(3,.ptr 0 0),(4,.ptr 1 0),(5,.ptr 2 0),(7,.bool v.1),(8,.rs 3),(9,i6 v.2.1)],[.cells [.fz Riii v.2.2.1],.cells [i6 v.2.2.2.1,i6 v.2.2.2.2.1],.cells [i6 v.2.2.2.2.2.1,i6 v.2.2.2.2.2.2.1],.rows Rii v.2.2.2.2.2.2.2]⟩
def q3dx (C:q3da) (v:q3dn):Dt q3dv:=(Dt.bnd (C.2.2.2.2.1 ((v.2.2.1,()),(v.2.2.2.1,v.2.2.2.2.1,()),(v.2.2.2.2.2.1,v.2.2.2.2.2.2,()),())) fun r1=>(Dt.ret (v.1,r1.2,v.2.2.1,v.2.2.2.1,v.2.2.2.2.1,v.2.2.2.2.2.1,v.2.2.2.2.2.2,r1.1)))
theorem q3dy C v:q40y (regO (qct f7) 4) false [(3,(.box [.val Riii])),(4,.any),(5,.any),(7,.any),(8,(.own Rii)),(9,.any)] q3do q3dx q3dw C v:=rgI (by kernel_rfl)
abbrev q3dz:Type:=Bool×Int×List qj9×Int×List Diii×Int×Int×Int×Int×List Dii
def q3e0 (v:q3dz):St:=⟨[(3,.ptr 0 0),(4,.ptr 1 0),(5,.ptr 2 0),(7,.bool v.1),(8,.rs 3),(9,i6 v.2.1),(10,.fz qj8 v.2.2.1),(11,i6 v.2.2.2.1)],[.cells [.fz Riii v.2.2.2.2.1],.cells [i6 v.2.2.2.2.2.1,i6 v.2.2.2.2.2.2.1],.cells [i6 v.2.2.2.2.2.2.2.1,i6 v.2.2.2.2.2.2.2.2.1],.rows Rii v.2.2.2.2.2.2.2.2.2]⟩
def q3e1 (C:q3da) (v:q3dv):Dt q3dz:=(Dt.bnd (C.2.1 ((v.2.2.1,()),(v.2.2.2.1,v.2.2.2.2.1,()),(v.2.2.2.2.2.1,v.2.2.2.2.2.2.1,()),())) fun r1=>(Dt.ret (v.1,v.2.1,r1.1,r1.2,v.2.2.1,v.2.2.2.1,v.2.2.2.2.1,v.2.2.2.2.2.1,v.2.2.2.2.2.2.1,v.2.2.2.2.2.2.2)))
theorem q3e2 C v:q40y (regO (qct f7) 5) false [(3,(.box [.val Riii])),(4,.any),(5,.any),(7,.any),(8,(.own Rii)),(9,.any),(10,(.val qj8)),(11,.any)] q3dw q3e1 q3e0 C v:=rgI (by kernel_rfl)
abbrev q3e3:Type:=Bool×Int×List qj9×Int×Int×Int×List Diii×Int×Int×List Dii
def q3e4 (v:q3e3):St:=⟨[(3,.ptr 0 0),(5,.ptr 1 0),(7,.bool v.1),(8,.rs 2),(9,i6 v.2.1),(10,.fz qj8 v.2.2.1),(11,i6 v.2.2.2.1),(12,i6 v.2.2.2.2.1),(13,i6 v.2.2.2.2.2.1)],[.cells [.fz Riii v.2.2.2.2.2.2.1],.cells [i6 v.2.2.2.2.2.2.2.1,i6 v.2.2.2.2.2.2.2.2.1],.rows Rii v.2.2.2.2.2.2.2.2.2]⟩
def q3e5 (C:q3da) (v:q3dz):Dt q3e3:=(Dt.bnd (C.2.2.2.1 ((v.2.2.2.2.1,()),(v.2.2.2.2.2.1,v.2.2.2.2.2.2.1,()),())) fun r1=>(Dt.ret (v.1,v.2.1,v.2.2.1,v.2.2.2.1,r1.1,r1.2,v.2.2.2.2.1,v.2.2.2.2.2.2.2.1,v.2.2.2.2.2.2.2.2.1,v.2.2.2.2.2.2.2.2.2)))
theorem q3e6 C v:q40y (regO (qct f7) 6) false [(3,(.box [.val Riii])),(5,.any),(7,.any),(8,(.own Rii)),(9,.any),(10,(.val qj8)),(11,.any),(12,.any),(13,.any)] q3e0 q3e5 q3e4 C v:=rgI (by kernel_rfl)
abbrev q3e7:Type:=Bool×Int×List qj9×Int×Int×Int×Int×Int×List Diii×List Dii
def q3e8 (v:q3e7):St:=⟨[(3,.ptr 0 0),(7,.bool v.1),(8,.rs 1),(9,i6 v.2.1),(10,.fz qj8 v.2.2.1),(11,i6 v.2.2.2.1),(12,i6 v.2.2.2.2.1),(13,i6 v.2.2.2.2.2.1),(14,i6 v.2.2.2.2.2.2.1),(15,i6 v.2.2.2.2.2.2.2.1)],[.cells [.fz Riii v.2.2.2.2.2.2.2.2.1],.rows Rii v.2.2.2.2.2.2.2.2.2]⟩
def q3e9 (C:q3da) (v:q3e3):Dt q3e7:=(Dt.bnd (C.2.2.2.1 ((v.2.2.2.2.2.2.1,()),(v.2.2.2.2.2.2.2.1,v.2.2.2.2.2.2.2.2.1,()),())) fun r1=>(Dt.ret (v.1,v.2.1,v.2.2.1,v.2.2.2.1,v.2.2.2.2.1,v.2.2.2.2.2.1,r1.1,r1.2,v.2.2.2.2.2.2.1,v.2.2.2.2.2.2.2.2.2)))
theorem q3ea C v:q40y (regO (qct f7) 7) false [(3,(.box [.val Riii])),(7,.any),(8,(.own Rii)),(9,.any),(10,(.val qj8)),(11,.any),(12,.any),(13,.any),(14,.any),(15,.any)] q3e4 q3e9 q3e8 C v:=rgI (by kernel_rfl)
abbrev q3eb:Type:=Bool×List qj9×Int×Int×Bool×List Diii×List Dii
def q3ec (v:q3eb):St:=⟨[(3,.ptr 0 0),(7,.bool v.1),(8,.rs 1),(10,.fz qj8 v.2.1),(12,i6 v.2.2.1),(14,i6 v.2.2.2.1),(80,.bool v.2.2.2.2.1)],[.cells [.fz Riii v.2.2.2.2.2.1],.rows Rii v.2.2.2.2.2.2]⟩
def q3ed (C:q3da) (v:q3e7):Dt q3eb:=(Dt.ite (v.2.1 != (0:Int)) (Dt.ret (v.1,v.2.2.1,v.2.2.2.2.1,v.2.2.2.2.2.2.1,true,v.2.2.2.2.2.2.2.2.1,v.2.2.2.2.2.2.2.2.2)) (Dt.ite (v.2.2.2.1 != (0:Int)) (Dt.ret (v.1,v.2.2.1,v.2.2.2.2.1,v.2.2.2.2.2.2.1,true,v.2.2.2.2.2.2.2.2.1,v.2.2.2.2.2.2.2.2.2)) (Dt.ite (v.2.2.2.2.2.1 != (0:Int)) (Dt.ret (v.1,v.2.2.1,v.2.2.2.2.1,v.2.2.2.2.2.2.1,true,v.2.2.2.2.2.2.2.2.1,v.2.2.2.2.2.2.2.2.2)) (Dt.ret (v.1,v.2.2.1,v.2.2.2.2.1,v.2.2.2.2.2.2.1,(v.2.2.2.2.2.2.2.1 != (0:Int)),v.2.2.2.2.2.2.2.2.1,v.2.2.2.2.2.2.2.2.2)))))
theorem q3ee C v:q40y (regO (qct f7) 8) false [(3,(.box [.val Riii])),(7,.any),(8,(.own Rii)),(10,(.val qj8)),(12,.any),(14,.any),(80,.any)] q3e8 q3ed q3ec C v:=rgI (by kernel_rfl)
def q3ef (C:q3da) (v:q3eb):Dt q3dr:=(Dt.ret false)
theorem q3eg C v:q40y (regO (qct f7) 9) false [(6,.any)] q3ec q3ef q3ds C v:=rgI (by kernel_rfl)
abbrev q3eh:Type:=Bool×List qj9×Int×Int×Int×List Diii×List Dii
def q3ei (v:q3eh):St:=⟨[(3,.ptr 0 0),(7,.bool v.1),(8,.rs 1),(10,.fz qj8 v.2.1),(12,i6 v.2.2.1),(14,i6 v.2.2.2.1),(16,i6 v.2.2.2.2.1)],[.cells [.fz Riii v.2.2.2.2.2.1],.rows Rii v.2.2.2.2.2.2]⟩
def q3ej (C:q3da) (v:q3eb):Dt q3eh:=(Dt.ret (v.1,v.2.1,v.2.2.1,v.2.2.2.1,(0:Int),v.2.2.2.2.2.1,v.2.2.2.2.2.2))
theorem q3ek C v:q40y (regO (qct f7) 10) false [(3,(.box [.val Riii])),(7,.any),(8,(.own Rii)),(10,(.val qj8)),(12,.any),(14,.any),(16,.any)] q3ec q3ej q3ei C v:=rgI (by kernel_rfl)
abbrev q3el:Type:=Bool×List qj9×Int×Int×Int×Int×List Diii×List Dii
def q3em (v:q3el):St:=⟨[(3,.ptr 0 0),(7,.bool v.1),(8,.rs 1),(10,.fz qj8 v.2.1),(12,i6 v.2.2.1),(14,i6 v.2.2.2.1),(16,i6 v.2.2.2.2.1),(17,i6 v.2.2.2.2.2.1)],[.cells [.fz Riii v.2.2.2.2.2.2.1],.rows Rii v.2.2.2.2.2.2.2]⟩
def q3en (C:q3da) (v:q3eh):Dt q3el:=(Dt.ret (v.1,v.2.1,v.2.2.1,v.2.2.2.1,v.2.2.2.2.1,(0:Int),v.2.2.2.2.2.1,v.2.2.2.2.2.2))
theorem q3eo C v:q40y (regO (qct f7) 11) false [(3,(.box [.val Riii])),(7,.any),(8,(.own Rii)),(10,(.val qj8)),(12,.any),(14,.any),(16,.any),(17,.any)] q3ei q3en q3em C v:=rgI (by kernel_rfl)
abbrev q3ep:Type:=Bool×List qj9×Int×Int×Int×Int×Bool×List Diii×List Dii
def q3eq (v:q3ep):St:=⟨[(3,.ptr 0 0),(7,.bool v.1),(8,.rs 1),(10,.fz qj8 v.2.1),(12,i6 v.2.2.1),(14,i6 v.2.2.2.1),(16,i6 v.2.2.2.2.1),(17,i6 v.2.2.2.2.2.1),(84,.bool v.2.2.2.2.2.2.1)],[.cells [.fz Riii v.2.2.2.2.2.2.2.1],.rows Rii v.2.2.2.2.2.2.2.2]⟩
def q3er (C:q3da) (v:q3el):Dt q3ep:=(Dt.ret (v.1,v.2.1,v.2.2.1,v.2.2.2.1,v.2.2.2.2.1,v.2.2.2.2.2.1,(decide (v.2.2.2.2.2.1<(List.length v.2.1:Int))),v.2.2.2.2.2.2.1,v.2.2.2.2.2.2.2))
theorem q3es C v:q40y (regO (qct f7) 12) false [(3,(.box [.val Riii])),(7,.any),(8,(.own Rii)),(10,(.val qj8)),(12,.any),(14,.any),(16,.any),(17,.any),(84,.any)] q3em q3er q3eq C v:=rgI (by kernel_rfl)
abbrev q3et:Type:=Bool×List qj9×Int×Int×Int×Int×Int×Int×List Diii×List Dii
def q3eu (v:q3et):St:=⟨[(3,.ptr 0 0),(7,.bool v.1),(8,.rs 1),(10,.fz qj8 v.2.1),(12,i6 v.2.2.1),(14,i6 v.2.2.2.1),(16,i6 v.2.2.2.2.1),(17,i6 v.2.2.2.2.2.1),(18,i6 v.2.2.2.2.2.2.1),(19,i6 v.2.2.2.2.2.2.2.1)],[.cells [.fz Riii v.2.2.2.2.2.2.2.2.1],.rows Rii v.2.2.2.2.2.2.2.2.2]⟩
def q3ev (C:q3da) (v:q3ep):Dt q3et:=(Dt.ite (inB v.2.2.2.2.2.1 (List.length v.2.1)) (Dt.bnd (C.2.2.2.1 ((v.2.2.2.2.2.2.2.1,()),((elt qja v.2.1 (v.2.2.2.2.2.1).toNat).1,(elt qja v.2.1 (v.2.2.2.2.2.1).toNat).2.1,()),())) fun r1=>(Dt.ret (v.1,v.2.1,v.2.2.1,v.2.2.2.1,v.2.2.2.2.1,v.2.2.2.2.2.1,r1.1,r1.2,v.2.2.2.2.2.2.2.1,v.2.2.2.2.2.2.2.2))) Dt.fail)
theorem q3ew C v:q40y (regO (qct f7) 14) true [(3,(.box [.val Riii])),(7,.any),(8,(.own Rii)),(10,(.val qj8)),(12,.any),(14,.any),(16,.any),(17,.any),(18,.any),(19,.any)] q3eq q3ev q3eu C v:=rgI (by kernel_rfl)
abbrev q3ex:Type:=Bool×List qj9×Int×Int×Int×Int×Int×Bool×List Diii×List Dii
def q3ey (v:q3ex):St:=⟨[(3,.ptr 0 0),(7,.bool v.1),(8,.rs 1),(10,.fz qj8 v.2.1),(12,i6 v.2.2.1),(14,i6 v.2.2.2.1),(16,i6 v.2.2.2.2.1),(17,i6 v.2.2.2.2.2.1),(18,i6 v.2.2.2.2.2.2.1),(103,.bool v.2.2.2.2.2.2.2.1)],[.cells [.fz Riii v.2.2.2.2.2.2.2.2.1],.rows Rii v.2.2.2.2.2.2.2.2.2]⟩
def q3ez (C:q3da) (v:q3et):Dt q3ex:=(Dt.ite (v.2.2.2.2.2.2.2.1 != (0:Int)) (Dt.ret (v.1,v.2.1,v.2.2.1,v.2.2.2.1,v.2.2.2.2.1,v.2.2.2.2.2.1,v.2.2.2.2.2.2.1,true,v.2.2.2.2.2.2.2.2.1,v.2.2.2.2.2.2.2.2.2)) (Dt.ret (v.1,v.2.1,v.2.2.1,v.2.2.2.1,v.2.2.2.2.1,v.2.2.2.2.2.1,v.2.2.2.2.2.2.1,(decide (v.2.2.2.2.2.2.1<v.2.2.1)),v.2.2.2.2.2.2.2.2.1,v.2.2.2.2.2.2.2.2.2)))
theorem q3f0 C v:q40y (regO (qct f7) 15) false [(3,(.box [.val Riii])),(7,.any),(8,(.own Rii)),(10,(.val qj8)),(12,.any),(14,.any),(16,.any),(17,.any),(18,.any),(103,.any)] q3eu q3ez q3ey C v:=rgI (by kernel_rfl)
def q3f1 (C:q3da) (v:q3ex):Dt q3dr:=(Dt.ret false)
theorem q3f2 C v:q40y (regO (qct f7) 16) false [(6,.any)] q3ey q3f1 q3ds C v:=rgI (by kernel_rfl)
abbrev q3f3:Type:=Bool×List qj9×Int×Int×Int×Int×Int×Bool×List Diii×List Dii
def q3f4 (v:q3f3):St:=⟨[(3,.ptr 0 0),(7,.bool v.1),(8,.rs 1),(10,.fz qj8 v.2.1),(12,i6 v.2.2.1),(14,i6 v.2.2.2.1),(16,i6 v.2.2.2.2.1),(17,i6 v.2.2.2.2.2.1),(18,i6 v.2.2.2.2.2.2.1),(106,.bool v.2.2.2.2.2.2.2.1)],[.cells [.fz Riii v.2.2.2.2.2.2.2.2.1],.rows Rii v.2.2.2.2.2.2.2.2.2]⟩
def q3f5 (C:q3da) (v:q3ex):Dt q3f3:=(Dt.ret (v.1,v.2.1,v.2.2.1,v.2.2.2.1,v.2.2.2.2.1,v.2.2.2.2.2.1,v.2.2.2.2.2.2.1,(decide (v.2.2.2.2.2.2.1 > v.2.2.1)),v.2.2.2.2.2.2.2.2.1,v.2.2.2.2.2.2.2.2.2))
theorem q3f6 C v:q40y (regO (qct f7) 17) false [(3,(.box [.val Riii])),(7,.any),(8,(.own Rii)),(10,(.val qj8)),(12,.any),(14,.any),(16,.any),(17,.any),(18,.any),(106,.any)] q3ey q3f5 q3f4 C v:=rgI (by kernel_rfl)
abbrev q3f7:Type:=Bool×List qj9×Int×Int×Int×Int×Bool×List Diii×List Dii
def q3f8 (v:q3f7):St:=⟨[(3,.ptr 0 0),(7,.bool v.1),(8,.rs 1),(10,.fz qj8 v.2.1),(14,i6 v.2.2.1),(16,i6 v.2.2.2.1),(17,i6 v.2.2.2.2.1),(18,i6 v.2.2.2.2.2.1),(122,.bool v.2.2.2.2.2.2.1)],[.cells [.fz Riii v.2.2.2.2.2.2.2.1],.rows Rii v.2.2.2.2.2.2.2.2]⟩
def q3f9 (C:q3da) (v:q3f3):Dt q3f7:=(Dt.ite (decide (v.2.2.2.2.1≥(List.length v.2.2.2.2.2.2.2.2.2:Int))) (Dt.ret (v.1,v.2.1,v.2.2.2.1,v.2.2.2.2.1,v.2.2.2.2.2.1,v.2.2.2.2.2.2.1,true,v.2.2.2.2.2.2.2.2.1,v.2.2.2.2.2.2.2.2.2)) (Dt.ite (inB v.2.2.2.2.1 (List.length v.2.2.2.2.2.2.2.2.2)) (Dt.ite (inB v.2.2.2.2.2.1 (List.length v.2.1)) (Dt.ret (v.1,v.2.1,v.2.2.2.1,v.2.2.2.2.1,v.2.2.2.2.2.1,v.2.2.2.2.2.2.1,(!(((elt zii v.2.2.2.2.2.2.2.2.2 (v.2.2.2.2.1).toNat).1 == (elt qja v.2.1 (v.2.2.2.2.2.1).toNat).1)&&(((elt zii v.2.2.2.2.2.2.2.2.2 (v.2.2.2.2.1).toNat).2.1 == (elt qja v.2.1 (v.2.2.2.2.2.1).toNat).2.1)&&true))),v.2.2.2.2.2.2.2.2.1,v.2.2.2.2.2.2.2.2.2)) Dt.fail) Dt.fail))
theorem q3fa C v:q40y (regO (qct f7) 18) true [(3,(.box [.val Riii])),(7,.any),(8,(.own Rii)),(10,(.val qj8)),(14,.any),(16,.any),(17,.any),(18,.any),(122,.any)] q3f4 q3f9 q3f8 C v:=rgI (by kernel_rfl)
def q3fb (C:q3da) (v:q3f7):Dt q3dr:=(Dt.ret false)
theorem q3fc C v:q40y (regO (qct f7) 19) false [(6,.any)] q3f8 q3fb q3ds C v:=rgI (by kernel_rfl)
abbrev q3fd:Type:=Bool×List qj9×Int×Int×Int×Int×List Diii×List Dii
def q3fe (v:q3fd):St:=⟨[(3,.ptr 0 0),(7,.bool v.1),(8,.rs 1),(10,.fz qj8 v.2.1),(14,i6 v.2.2.1),(16,i6 v.2.2.2.1),(17,i6 v.2.2.2.2.1),(18,i6 v.2.2.2.2.2.1)],[.cells [.fz Riii v.2.2.2.2.2.2.1],.rows Rii v.2.2.2.2.2.2.2]⟩
def q3ff (C:q3da) (v:q3f7):Dt q3fd:=(Dt.ret (v.1,v.2.1,v.2.2.1,(IntKind.wrap .i64 (v.2.2.2.1+(1:Int))),v.2.2.2.2.1,v.2.2.2.2.2.1,v.2.2.2.2.2.2.2.1,v.2.2.2.2.2.2.2.2))
theorem q3fg C v:q40y (regO (qct f7) 20) false [(3,(.box [.val Riii])),(7,.any),(8,(.own Rii)),(10,(.val qj8)),(14,.any),(16,.any),(17,.any),(18,.any)] q3f8 q3ff q3fe C v:=rgI (by kernel_rfl)
def q3fh (C:q3da) (v:q3fd):Dt q3el:=(Dt.ret (v.1,v.2.1,v.2.2.2.2.2.1,v.2.2.1,v.2.2.2.1,v.2.2.2.2.1,v.2.2.2.2.2.2.1,v.2.2.2.2.2.2.2))
theorem q3fi C v:q40y (regO (qct f7) 21) false [(3,(.box [.val Riii])),(7,.any),(8,(.own Rii)),(10,(.val qj8)),(12,.any),(14,.any),(16,.any),(17,.any)] q3fe q3fh q3em C v:=rgI (by kernel_rfl)
def q3fj (C:q3da) (v:q3el):Dt q3el:=(Dt.ret (v.1,v.2.1,v.2.2.1,v.2.2.2.1,v.2.2.2.2.1,(IntKind.wrap .i64 (v.2.2.2.2.2.1+(1:Int))),v.2.2.2.2.2.2.1,v.2.2.2.2.2.2.2))
theorem q3fk C v:q40y (regO (qct f7) 13) false [(3,(.box [.val Riii])),(7,.any),(8,(.own Rii)),(10,(.val qj8)),(12,.any),(14,.any),(16,.any),(17,.any)] q3em q3fj q3em C v:=rgI (by kernel_rfl)
def q3fl  (d:Nat) (self1:(Bool×List qj9×Int×Int×Int×Int×List Diii×List Dii)→Option q3d7) (z:Bool×List qj9×Int×Int×Int×Int×List Diii×List Dii):Option (q3d7) :=
 (q3fj (q3db d) z).eval fun y13 =>
 self1 y13
def q3fm (C:q3da) (v:q3ep):Dt q3dr:=(Dt.ite v.1 (Dt.ite (v.2.2.2.2.1 == (List.length v.2.2.2.2.2.2.2.2:Int)) (Dt.ret (v.2.2.1 == v.2.2.2.1)) (Dt.ret false)) (Dt.ret false))
theorem q3fn C v:q40y (regO (qct f7) 22) false [(6,.any)] q3eq q3fm q3ds C v:=rgI (by kernel_rfl)
def q3fo (d:Nat) (self1:(Bool×List qj9×Int×Int×Int×Int×List Diii×List Dii)→Option q3d7) (x1:Bool×List qj9×Int×Int×Int×Int×List Diii×List Dii):Option q3d7 :=
 (q3er (q3db d) x1).eval fun y12 =>
 bif y12.2.2.2.2.2.2.1 then ((q3ev (q3db d) y12).eval fun y14 =>
 (q3ez (q3db d) y14).eval fun y15 =>
 bif y15.2.2.2.2.2.2.2.1 then ((q3f1 (q3db d) y15).eval fun y16 =>
 some y16) else ((q3f5 (q3db d) y15).eval fun y17 =>
 bif y17.2.2.2.2.2.2.2.1 then ((q3f9 (q3db d) y17).eval fun y18 =>
 bif y18.2.2.2.2.2.2.1 then ((q3fb (q3db d) y18).eval fun y19 =>
 some y19) else ((q3ff (q3db d) y18).eval fun y20 =>
 (q3fh (q3db d) y20).eval fun y21 =>
 q3fl d self1 y21)) else (q3fl d self1 (y17.1,y17.2.1,y17.2.2.1,y17.2.2.2.1,y17.2.2.2.2.1,y17.2.2.2.2.2.1,y17.2.2.2.2.2.2.2.2.1,y17.2.2.2.2.2.2.2.2.2)))) else ((q3fm (q3db d) y12).eval fun y22 =>
 some y22)
def q3fp (d:Nat) (x:q3d6):Option q3d7 :=
 (q3dh (q3db d) (x.1.1,x.2.1.1,x.2.1.2.1,x.2.2.1.1,x.2.2.1.2.1)).eval fun y0 =>
 (q3dl (q3db d) y0).eval fun y1 =>
 (q3dp (q3db d) y1).eval fun y2 =>
 bif y2.2.1 then ((q3dt (q3db d) y2).eval fun y3 =>
 some y3) else ((q3dx (q3db d) y2).eval fun y4 =>
 (q3e1 (q3db d) y4).eval fun y5 =>
 (q3e5 (q3db d) y5).eval fun y6 =>
 (q3e9 (q3db d) y6).eval fun y7 =>
 (q3ed (q3db d) y7).eval fun y8 =>
 bif y8.2.2.2.2.1 then ((q3ef (q3db d) y8).eval fun y9 =>
 some y9) else ((q3ej (q3db d) y8).eval fun y10 =>
 (q3en (q3db d) y10).eval fun y11 =>
 iter (q3fo d ) d y11))
theorem q3fq (d:Nat):COK prog (q3d9 (q3fp d)):=by
 have hm:prog.follows .mixedOrders=true:=mixed
 have hT:=tys
 have hC0:OrcOK prog (orc (q3dc (q3db d))):=qcn (by
  intro S hS
  simp only [q3dc,List.mem_cons,List.not_mem_nil,or_false] at hS
  rcases hS with rfl | rfl | rfl | rfl | rfl | rfl
  · exact q2r7 d
  · exact q2bc d
  · exact q38s d
  · exact q2ha d
  · exact q2kb d
  · exact q3d4 d)
 have hC:OrcOK prog (orc (q3dc (q3db d))):=hC0
 refine q8c (c:=qct f7) (fn:=f7) hT (by kernel_rfl) (by kernel_rfl) (by decide) fun x r h w0 φ0 Q hend=>?_
 replace h:q3fp d x=some r:=h
 unfold q3fp at h
 show Run prog w0 φ0 138 (qct f7) ⟨[(0,.agg [.fz Riii x.1.1]),(1,.agg [.int .i64 x.2.1.1,.int .i64 x.2.1.2.1]),(2,.agg [.int .i64 x.2.2.1.1,.int .i64 x.2.2.1.2.1])],[]⟩ Q
 refine q3yo hm hT hC (q3di (q3db d) (x.1.1,x.2.1.1,x.2.1.2.1,x.2.2.1.1,x.2.2.1.2.1)) h fun y0 h=>?_
 refine q3yo hm hT hC (q3dm (q3db d) y0) h fun y1 h=>?_
 refine q7w ?_
 refine q3yo hm hT hC (q3dq (q3db d) y1) h fun y2 h=>?_
 refine q80 (v:=y2.2.1) (by kernel_rfl) h ?_ ?_
 ·
  intro h
  refine q3yo hm hT hC (q3du (q3db d) y2) h fun y3 h=>?_
  refine q7v (q7k ?_)
  cases h
  exact (hend _ (by kernel_rfl)).2
 ·
  intro h
  refine q7s (q7i ?_)
  refine q3yo hm hT hC (q3dy (q3db d) y2) h fun y4 h=>?_
  refine q3yo hm hT hC (q3e2 (q3db d) y4) h fun y5 h=>?_
  refine q3yo hm hT hC (q3e6 (q3db d) y5) h fun y6 h=>?_
  refine q3yo hm hT hC (q3ea (q3db d) y6) h fun y7 h=>?_
  refine q7w ?_
  refine q3yo hm hT hC (q3ee (q3db d) y7) h fun y8 h=>?_
  refine q80 (v:=y8.2.2.2.2.1) (by kernel_rfl) h ?_ ?_
  ·
   intro h
   refine q3yo hm hT hC (q3eg (q3db d) y8) h fun y9 h=>?_
   refine q7v (q7k ?_)
   cases h
   exact (hend _ (by kernel_rfl)).2
  ·
   intro h
   refine q7s (q7i ?_)
   refine q3yo hm hT hC (q3ek (q3db d) y8) h fun y10 h=>?_
   refine q7w ?_
   refine q3yo hm hT hC (q3eo (q3db d) y10) h fun y11 h=>?_
   refine q7x ?_
   refine q82 (G:=iter (q3fo d )) (S:=(fun x1=>⟨[(3,.ptr 0 0),(7,.bool x1.1),(8,.rs 1),(10,.fz qj8 x1.2.1),(12,i6 x1.2.2.1),(14,i6 x1.2.2.2.1),(16,i6 x1.2.2.2.2.1),(17,i6 x1.2.2.2.2.2.1)],[.cells [.fz Riii x1.2.2.2.2.2.2.1],.rows Rii x1.2.2.2.2.2.2.2]⟩:Bool×List qj9×Int×Int×Int×Int×List Diii×List Dii→St)) (fun _=>rfl) ?_ d _ h
   intro n1 x1 h K1 hn1
   replace h:q3fo d  (iter (q3fo d ) n1) x1=some r:=h
   generalize iter (q3fo d ) n1=self1 at h hn1
   unfold q3fo at h
   refine q7w ?_
   refine q3yo hm hT hC (q3es (q3db d) x1) h fun y12 h=>?_
   refine q80 (v:=y12.2.2.2.2.2.2.1) (by kernel_rfl) h ?_ ?_
   ·
    intro h
    refine q7s (q7i ?_)
    refine q7z (r:=r) (F:=q3fl d self1) (S:=(fun z=>⟨[(3,.ptr 0 0),(7,.bool z.1),(8,.rs 1),(10,.fz qj8 z.2.1),(12,i6 z.2.2.1),(14,i6 z.2.2.2.1),(16,i6 z.2.2.2.2.1),(17,i6 z.2.2.2.2.2.1)],[.cells [.fz Riii z.2.2.2.2.2.2.1],.rows Rii z.2.2.2.2.2.2.2]⟩:Bool×List qj9×Int×Int×Int×Int×List Diii×List Dii→St)) ?_ ?_
    ·
     intro z h
     unfold q3fl at h
     refine q81 hm hT hC (q3fk (q3db d) z) h ?_
     intro y13 h
     exact hn1 _ h
    intro hj2
    refine q7x ?_
    refine q3yo hm hT hC (q3ew (q3db d) y12) h fun y14 h=>?_
    refine q7w ?_
    refine q3yo hm hT hC (q3f0 (q3db d) y14) h fun y15 h=>?_
    refine q80 (v:=y15.2.2.2.2.2.2.2.1) (by kernel_rfl) h ?_ ?_
    ·
     intro h
     refine q3yo hm hT hC (q3f2 (q3db d) y15) h fun y16 h=>?_
     refine q7v (q7k (q7m (q7k (q7k (q7m (q7k ?_))))))
     cases h
     exact (hend _ (by kernel_rfl)).2
    ·
     intro h
     refine q7s (q7i ?_)
     refine q3yo hm hT hC (q3f6 (q3db d) y15) h fun y17 h=>?_
     refine q80 (v:=y17.2.2.2.2.2.2.2.1) (by kernel_rfl) h ?_ ?_
     ·
      intro h
      refine q7w ?_
      refine q3yo hm hT hC (q3fa (q3db d) y17) h fun y18 h=>?_
      refine q80 (v:=y18.2.2.2.2.2.2.1) (by kernel_rfl) h ?_ ?_
      ·
       intro h
       refine q3yo hm hT hC (q3fc (q3db d) y18) h fun y19 h=>?_
       refine q7v (q7k (q7m (q7k (q7k (q7m (q7k ?_))))))
       cases h
       exact (hend _ (by kernel_rfl)).2
      ·
       intro h
       refine q7s (q7i ?_)
       refine q3yo hm hT hC (q3fg (q3db d) y18) h fun y20 h=>?_
       refine q81 hm hT hC (q3fi (q3db d) y20) h ?_
       intro y21 h
       refine q7l ?_
       exact hj2 _ h
     ·
      intro h
      refine q7s (q7l ?_)
      refine qcs (s:=⟨[(3,.ptr 0 0),(7,.bool y17.1),(8,.rs 1),(10,.fz qj8 y17.2.1),(12,.int .i64 y17.2.2.1),(14,.int .i64 y17.2.2.2.1),(16,.int .i64 y17.2.2.2.2.1),(17,.int .i64 y17.2.2.2.2.2.1)],[.cells [.fz Riii y17.2.2.2.2.2.2.2.2.1],.rows Rii y17.2.2.2.2.2.2.2.2.2]⟩) [18,106] (by kernel_rfl) ?_
      exact hj2 _ h
   ·
    intro h
    refine q7u (q7j (q7j (q7n (q7i ?_))))
    refine q3yo hm hT hC (q3fn (q3db d) y12) h fun y22 h=>?_
    refine q7v ?_
    cases h
    exact (hend _ (by kernel_rfl)).2
abbrev q3fr:List Pk:=[.row Rii true]
abbrev q3fs:Type:=Dii×Unit
abbrev q3ft:Type:=Int
def q3fu (r:q3ft):LV×List Ob:=(.int .i64 r,[])
def q3fv (F:q3fs→Option q3ft):Go.Tx.Spec:=⟨39,q3fr,q3ft,F,q3fu⟩
abbrev q3fw:Type:=(qmz→Option qn0)×Unit
def q3fx (d:Nat):q3fw:=(qn4 d,())
def q3fy (C:q3fw):List Go.Tx.Spec:=[qn2 C.1]
abbrev q3fz:Type:=Int×Int
def q3g0 (v:q3fz):St:=⟨[(0,.agg [i6 v.1,i6 v.2])],[]⟩
abbrev q3g1:Type:=Int×Int
def q3g2 (v:q3g1):St:=⟨[(1,.ptr 0 0)],[.cells [i6 v.1,i6 v.2]]⟩
def q3g3 (C:q3fw) (v:q3fz):Dt q3g1:=(Dt.ret (v.1,v.2))
abbrev q40z {V Y:Type}:=@rg q3fw V Y tysT (fun C=>(orc (q3fy C))) 21
theorem q3g4 C v:q40z (regO (qct f39) 0) false [(1,.any)] q3g0 q3g3 q3g2 C v:=rgI (by kernel_rfl)
abbrev q3g5:Type:=Bool×Int×Int
def q3g6 (v:q3g5):St:=⟨[(1,.ptr 0 0),(5,.bool v.1)],[.cells [i6 v.2.1,i6 v.2.2]]⟩
def q3g7 (C:q3fw) (v:q3g1):Dt q3g5:=(Dt.bnd (C.1 ((v.1,v.2,()),())) fun r1=>(Dt.ret ((r1 != (0:Int)),v.1,v.2)))
theorem q3g8 C v:q40z (regO (qct f39) 1) false (an [1,5]) q3g2 q3g7 q3g6 C v:=rgI (by kernel_rfl)
abbrev q3g9:Type:=Int
def q3ga (v:q3g9):St:=⟨[(2,i6 v)],[]⟩
def q3gb (C:q3fw) (v:q3g5):Dt q3g9:=(Dt.bnd (C.1 ((v.2.1,v.2.2,()),())) fun r1=>(Dt.ret r1))
theorem q3gc C v:q40z (regO (qct f39) 2) false [(2,.any)] q3g6 q3gb q3ga C v:=rgI (by kernel_rfl)
abbrev q3gd:Type:=Bool
def q3ge (v:q3gd):St:=⟨[(20,.bool v)],[]⟩
def q3gf (C:q3fw) (v:q3g5):Dt q3gd:=(Dt.ite (decide (v.2.1 > (1073741824:Int))) (Dt.ret true) (Dt.ite (decide (v.2.1<(-1073741824:Int))) (Dt.ret true) (Dt.ret (decide (v.2.2 > (1024:Int))))))
theorem q3gg C v:q40z (regO (qct f39) 3) false [(20,.any)] q3g6 q3gf q3ge C v:=rgI (by kernel_rfl)
def q3gh (C:q3fw) (v:q3gd):Dt q3g9:=(Dt.ret (2:Int))
theorem q3gi C v:q40z (regO (qct f39) 4) false [(2,.any)] q3ge q3gh q3ga C v:=rgI (by kernel_rfl)
def q3gj (C:q3fw) (v:q3gd):Dt q3g9:=(Dt.ret (0:Int))
theorem q3gk C v:q40z (regO (qct f39) 5) false [(2,.any)] q3ge q3gj q3ga C v:=rgI (by kernel_rfl)
def q3gl (d:Nat) (x:q3fs):Option q3ft :=
 (q3g3 (q3fx d) (x.1.1,x.1.2.1)).eval fun y0 =>
 (q3g7 (q3fx d) y0).eval fun y1 =>
 bif y1.1 then ((q3gb (q3fx d) y1).eval fun y2 =>
 some y2) else ((q3gf (q3fx d) y1).eval fun y3 =>
 bif y3 then ((q3gh (q3fx d) y3).eval fun y4 =>
 some y4) else ((q3gj (q3fx d) y3).eval fun y5 =>
 some y5))
theorem q3gm (d:Nat):COK prog (q3fv (q3gl d)):=by
 have hm:prog.follows .mixedOrders=true:=mixed
 have hT:=tys
 have hC0:OrcOK prog (orc (q3fy (q3fx d))):=qcn (by
  intro S hS
  simp only [q3fy,List.mem_cons,List.not_mem_nil,or_false] at hS
  subst hS;exact qn6 d)
 have hC:OrcOK prog (orc (q3fy (q3fx d))):=hC0
 refine q8c (c:=qct f39) (fn:=f39) hT (by kernel_rfl) (by kernel_rfl) (by decide) fun x r h w0 φ0 Q hend=>?_
 replace h:q3gl d x=some r:=h
 unfold q3gl at h
 show Run prog w0 φ0 21 (qct f39) ⟨[(0,.agg [.int .i64 x.1.1,.int .i64 x.1.2.1])],[]⟩ Q
 refine q3yo hm hT hC (q3g4 (q3fx d) (x.1.1,x.1.2.1)) h fun y0 h=>?_
 refine q7w ?_
 refine q3yo hm hT hC (q3g8 (q3fx d) y0) h fun y1 h=>?_
 refine q80 (v:=y1.1) (by kernel_rfl) h ?_ ?_
 ·
  intro h
  refine q3yo hm hT hC (q3gc (q3fx d) y1) h fun y2 h=>?_
  refine q7v (q7k ?_)
  cases h
  exact (hend _ (by kernel_rfl)).2
 ·
  intro h
  refine q7s (q7i (q7w ?_))
  refine q3yo hm hT hC (q3gg (q3fx d) y1) h fun y3 h=>?_
  refine q80 (v:=y3) (by kernel_rfl) h ?_ ?_
  ·
   intro h
   refine q3yo hm hT hC (q3gi (q3fx d) y3) h fun y4 h=>?_
   refine q7v (q7k ?_)
   cases h
   exact (hend _ (by kernel_rfl)).2
  ·
   intro h
   refine q7s (q7i ?_)
   refine q3yo hm hT hC (q3gk (q3fx d) y3) h fun y5 h=>?_
   refine q7v ?_
   cases h
   exact (hend _ (by kernel_rfl)).2
abbrev q3gn:List Pk:=[.row qj5 true,.row Rii true,.row Rii true]
abbrev q3go:Type:=qj6×Dii×Dii×Unit
abbrev q3gp:Type:=Bool
def q3gq (r:q3gp):LV×List Ob:=(.bool r,[])
def q3gr (F:q3go→Option q3gp):Go.Tx.Spec:=⟨8,q3gn,q3gp,F,q3gq⟩
abbrev q3gs:Type:=(q2pz→Option q2q0)×(qmz→Option qn0)×(q38a→Option q38b)×(q2ew→Option q2ex)×(q2iy→Option q2iz)×(q2m0→Option q2m1)×(q3c0→Option q3c1)×(q3fs→Option q3ft)×(q2ot→Option q2ou)×Unit
def q3gt (d:Nat):q3gs:=(q2r6 d,qn4 d,q38r d,q2gb d,q2ka d,q2nu d,q3d3 d,q3gl d,q2pw d,())
def q3gu (C:q3gs):List Go.Tx.Spec:=[q2q2 C.1,qn2 C.2.1,q38d C.2.2.1,q2ez C.2.2.2.1,q2j1 C.2.2.2.2.1,q2m3 C.2.2.2.2.2.1,q3c3 C.2.2.2.2.2.2.1,q3fv C.2.2.2.2.2.2.2.1,q2ow C.2.2.2.2.2.2.2.2.1]
abbrev q3gv:Type:=List Diii×Int×Int×Int×Int
def q3gw (v:q3gv):St:=⟨[(0,.agg [.fz Riii v.1]),(1,.agg [i6 v.2.1,i6 v.2.2.1]),(2,.agg [i6 v.2.2.2.1,i6 v.2.2.2.2])],[]⟩
abbrev q3gx:Type:=List Diii×Int×Int×Int×Int
def q3gy (v:q3gx):St:=⟨[(3,.ptr 0 0),(4,.ptr 1 0),(5,.ptr 2 0)],[.cells [.fz Riii v.1],.cells [i6 v.2.1,i6 v.2.2.1],.cells [i6 v.2.2.2.1,i6 v.2.2.2.2]]⟩
def q3gz (C:q3gs) (v:q3gv):Dt q3gx:=(Dt.ret (v.1,v.2.1,v.2.2.1,v.2.2.2.1,v.2.2.2.2))
abbrev q410 {V Y:Type}:=@rg q3gs V Y tysT (fun C=>(orc (q3gu C))) 148
theorem q3h0 C v:q410 (regO (qct f8) 0) false [(3,(.box [.val Riii])),(4,.any),(5,.any)] q3gw q3gz q3gy C v:=rgI (by kernel_rfl)
abbrev q3h1:Type:=Bool×List Diii×Int×Int×Int×Int
def q3h2 (v:q3h1):St:=⟨[(3,.ptr 0 0),(4,.ptr 1 0),(5,.ptr 2 0),(7,.bool v.1)],[.cells [.fz Riii v.2.1],.cells [i6 v.2.2.1,i6 v.2.2.2.1],.cells [i6 v.2.2.2.2.1,i6 v.2.2.2.2.2]]⟩
def q3h3 (C:q3gs) (v:q3gx):Dt q3h1:=(Dt.bnd (C.2.2.2.2.2.2.1 (())) fun r1=>(Dt.ret (r1,v.1,v.2.1,v.2.2.1,v.2.2.2.1,v.2.2.2.2)))
theorem q3h4 C v:q410 (regO (qct f8) 1) false [(3,(.box [.val Riii])),(4,.any),(5,.any),(7,.any)] q3gy q3h3 q3h2 C v:=rgI (by kernel_rfl)
abbrev q3h5:Type:=Bool×Bool×List Diii×Int×Int×Int×Int
def q3h6 (v:q3h5):St:=⟨[(3,.ptr 0 0),(4,.ptr 1 0),(5,.ptr 2 0),(7,.bool v.1),(47,.bool v.2.1)],[.cells [.fz Riii v.2.2.1],.cells [i6 v.2.2.2.1,i6 v.2.2.2.2.1],.cells [i6 v.2.2.2.2.2.1,i6 v.2.2.2.2.2.2]]⟩
def q3h7 (C:q3gs) (v:q3h1):Dt q3h5:=(Dt.bnd (C.2.2.1 ((v.2.1,()),())) fun r1=>(Dt.ite r1 (Dt.ret (v.1,true,v.2.1,v.2.2.1,v.2.2.2.1,v.2.2.2.2.1,v.2.2.2.2.2)) (Dt.bnd (C.1 ((v.2.1,()),(v.2.2.1,v.2.2.2.1,()),(v.2.2.2.2.1,v.2.2.2.2.2,()),())) fun r2=>(Dt.ite (r2 != (0:Int)) (Dt.ret (v.1,true,v.2.1,v.2.2.1,v.2.2.2.1,v.2.2.2.2.1,v.2.2.2.2.2)) (Dt.ite ((List.length v.2.1:Int) == (0:Int)) (Dt.ret (v.1,true,v.2.1,v.2.2.1,v.2.2.2.1,v.2.2.2.2.1,v.2.2.2.2.2)) (Dt.bnd (C.2.2.2.2.2.2.2.1 ((v.2.2.1,v.2.2.2.1,()),())) fun r3=>(Dt.ite (r3 != (0:Int)) (Dt.ret (v.1,true,v.2.1,v.2.2.1,v.2.2.2.1,v.2.2.2.2.1,v.2.2.2.2.2)) (Dt.bnd (C.2.2.2.2.2.2.2.1 ((v.2.2.2.2.1,v.2.2.2.2.2,()),())) fun r4=>(Dt.ite (r4 != (0:Int)) (Dt.ret (v.1,true,v.2.1,v.2.2.1,v.2.2.2.1,v.2.2.2.2.1,v.2.2.2.2.2)) (Dt.ret (v.1,(!v.1),v.2.1,v.2.2.1,v.2.2.2.1,v.2.2.2.2.1,v.2.2.2.2.2)))))))))))
theorem q3h8 C v:q410 (regO (qct f8) 2) false [(3,(.box [.val Riii])),(4,.any),(5,.any),(7,.any),(47,.any)] q3h2 q3h7 q3h6 C v:=rgI (by kernel_rfl)
abbrev q3h9:Type:=Bool
def q3ha (v:q3h9):St:=⟨[(6,.bool v)],[]⟩
def q3hb (C:q3gs) (v:q3h5):Dt q3h9:=(Dt.ret v.1)
theorem q3hc C v:q410 (regO (qct f8) 3) false [(6,.any)] q3h6 q3hb q3ha C v:=rgI (by kernel_rfl)
abbrev q3hd:Type:=Bool×Int×List Diii×Int×Int×Int×Int×Int×Int×Int×Int
def q3he (v:q3hd):St:=⟨[(3,.ptr 0 0),(4,.ptr 1 0),(5,.ptr 2 0),(7,.bool v.1),(8,.ptr 3 0),(9,.ptr 4 0),(10,i6 v.2.1)],[.cells [.fz Riii v.2.2.1],.cells [i6 v.2.2.2.1,i6 v.2.2.2.2.1],.cells [i6 v.2.2.2.2.2.1,i6 v.2.2.2.2.2.2.1],.cells [i6 v.2.2.2.2.2.2.2.1,i6 v.2.2.2.2.2.2.2.2.1],.cells [i6 v.2.2.2.2.2.2.2.2.2.1,i6 v.2.2.2.2.2.2.2.2.2.2]]⟩
def q3hf (C:q3gs) (v:q3h5):Dt q3hd:=(Dt.bnd (C.2.2.2.2.2.1 ((v.2.2.1,()),(v.2.2.2.1,v.2.2.2.2.1,()),(v.2.2.2.2.2.1,v.2.2.2.2.2.2,()),())) fun r1=>(Dt.ret (v.1,r1.2.2.2.2,v.2.2.1,v.2.2.2.1,v.2.2.2.2.1,v.2.2.2.2.2.1,v.2.2.2.2.2.2,r1.1,r1.2.1,r1.2.2.1,r1.2.2.2.1)))
theorem q3hg C v:q410 (regO (qct f8) 4) false [(3,(.box [.val Riii])),(4,.any),(5,.any),(7,.any),(8,.any),(9,.any),(10,.any)] q3h6 q3hf q3he C v:=rgI (by kernel_rfl)
abbrev q3hh:Type:=Bool×Int×Int×List Diii×Int×Int×Int×Int×Int×Int×Int×Int×List Dii
def q3hi (v:q3hh):St:=⟨[(3,.ptr 0 0),(4,.ptr 1 0),(5,.ptr 2 0),(7,.bool v.1),(8,.ptr 3 0),(9,.ptr 4 0),(10,i6 v.2.1),(11,.rs 5),(12,i6 v.2.2.1)],[.cells [.fz Riii v.2.2.2.1],.cells [i6 v.2.2.2.2.1,i6 v.2.2.2.2.2.1],.cells [i6 v.2.2.2.2.2.2.1,i6 v.2.2.2.2.2.2.2.1],.cells [i6 v.2.2.2.2.2.2.2.2.1,i6 v.2.2.2.2.2.2.2.2.2.1],.cells [i6 v.2.2.2.2.2.2.2.2.2.2.1,i6 v.2.2.2.2.2.2.2.2.2.2.2.1],.rows Rii v.2.2.2.2.2.2.2.2.2.2.2.2]⟩
def q3hj (C:q3gs) (v:q3hd):Dt q3hh:=(Dt.bnd (C.2.2.2.2.1 ((v.2.2.1,()),(v.2.2.2.1,v.2.2.2.2.1,()),(v.2.2.2.2.2.1,v.2.2.2.2.2.2.1,()),())) fun r1=>(Dt.ret (v.1,v.2.1,r1.2,v.2.2.1,v.2.2.2.1,v.2.2.2.2.1,v.2.2.2.2.2.1,v.2.2.2.2.2.2.1,v.2.2.2.2.2.2.2.1,v.2.2.2.2.2.2.2.2.1,v.2.2.2.2.2.2.2.2.2.1,v.2.2.2.2.2.2.2.2.2.2,r1.1)))
theorem q3hk C v:q410 (regO (qct f8) 5) false [(3,(.box [.val Riii])),(4,.any),(5,.any),(7,.any),(8,.any),(9,.any),(10,.any),(11,(.own Rii)),(12,.any)] q3he q3hj q3hi C v:=rgI (by kernel_rfl)
abbrev q3hl:Type:=Bool×Bool×List Diii×Int×Int×Int×Int×Int×Int×Int×Int×List Dii
def q3hm (v:q3hl):St:=⟨[(3,.ptr 0 0),(4,.ptr 1 0),(5,.ptr 2 0),(7,.bool v.1),(8,.ptr 3 0),(9,.ptr 4 0),(11,.rs 5),(79,.bool v.2.1)],[.cells [.fz Riii v.2.2.1],.cells [i6 v.2.2.2.1,i6 v.2.2.2.2.1],.cells [i6 v.2.2.2.2.2.1,i6 v.2.2.2.2.2.2.1],.cells [i6 v.2.2.2.2.2.2.2.1,i6 v.2.2.2.2.2.2.2.2.1],.cells [i6 v.2.2.2.2.2.2.2.2.2.1,i6 v.2.2.2.2.2.2.2.2.2.2.1],.rows Rii v.2.2.2.2.2.2.2.2.2.2.2]⟩
def q3hn (C:q3gs) (v:q3hh):Dt q3hl:=(Dt.ite (v.2.1 != (0:Int)) (Dt.ret (v.1,true,v.2.2.2.1,v.2.2.2.2.1,v.2.2.2.2.2.1,v.2.2.2.2.2.2.1,v.2.2.2.2.2.2.2.1,v.2.2.2.2.2.2.2.2.1,v.2.2.2.2.2.2.2.2.2.1,v.2.2.2.2.2.2.2.2.2.2.1,v.2.2.2.2.2.2.2.2.2.2.2.1,v.2.2.2.2.2.2.2.2.2.2.2.2)) (Dt.ite (v.2.2.1 != (0:Int)) (Dt.ret (v.1,true,v.2.2.2.1,v.2.2.2.2.1,v.2.2.2.2.2.1,v.2.2.2.2.2.2.1,v.2.2.2.2.2.2.2.1,v.2.2.2.2.2.2.2.2.1,v.2.2.2.2.2.2.2.2.2.1,v.2.2.2.2.2.2.2.2.2.2.1,v.2.2.2.2.2.2.2.2.2.2.2.1,v.2.2.2.2.2.2.2.2.2.2.2.2)) (Dt.bnd (C.2.1 ((v.2.2.2.2.2.2.2.2.1,v.2.2.2.2.2.2.2.2.2.1,()),())) fun r1=>(Dt.ite (r1 != (0:Int)) (Dt.ret (v.1,true,v.2.2.2.1,v.2.2.2.2.1,v.2.2.2.2.2.1,v.2.2.2.2.2.2.1,v.2.2.2.2.2.2.2.1,v.2.2.2.2.2.2.2.2.1,v.2.2.2.2.2.2.2.2.2.1,v.2.2.2.2.2.2.2.2.2.2.1,v.2.2.2.2.2.2.2.2.2.2.2.1,v.2.2.2.2.2.2.2.2.2.2.2.2)) (Dt.bnd (C.2.1 ((v.2.2.2.2.2.2.2.2.2.2.1,v.2.2.2.2.2.2.2.2.2.2.2.1,()),())) fun r2=>(Dt.ret (v.1,(r2 != (0:Int)),v.2.2.2.1,v.2.2.2.2.1,v.2.2.2.2.2.1,v.2.2.2.2.2.2.1,v.2.2.2.2.2.2.2.1,v.2.2.2.2.2.2.2.2.1,v.2.2.2.2.2.2.2.2.2.1,v.2.2.2.2.2.2.2.2.2.2.1,v.2.2.2.2.2.2.2.2.2.2.2.1,v.2.2.2.2.2.2.2.2.2.2.2.2)))))))
theorem q3ho C v:q410 (regO (qct f8) 6) false [(3,(.box [.val Riii])),(4,.any),(5,.any),(7,.any),(8,.any),(9,.any),(11,(.own Rii)),(79,.any)] q3hi q3hn q3hm C v:=rgI (by kernel_rfl)
def q3hp (C:q3gs) (v:q3hl):Dt q3h9:=(Dt.ret false)
theorem q3hq C v:q410 (regO (qct f8) 7) false [(6,.any)] q3hm q3hp q3ha C v:=rgI (by kernel_rfl)
abbrev q3hr:Type:=Bool×List Diii×Int×Int×Int×Int×List Dii
def q3hs (v:q3hr):St:=⟨[(3,.ptr 0 0),(7,.bool v.1),(8,.ptr 1 0),(9,.ptr 2 0),(13,.rs 3)],[.cells [.fz Riii v.2.1],.cells [i6 v.2.2.1,i6 v.2.2.2.1],.cells [i6 v.2.2.2.2.1,i6 v.2.2.2.2.2.1],.rows Rii v.2.2.2.2.2.2]⟩
def q3ht (C:q3gs) (v:q3hl):Dt q3hr:=(Dt.ite (apB (List.length ([(v.2.2.2.1,v.2.2.2.2.1,())]:List Dii)) (List.length v.2.2.2.2.2.2.2.2.2.2.2)) (Dt.ite (apB (List.length (([(v.2.2.2.1,v.2.2.2.2.1,())]:List Dii)++v.2.2.2.2.2.2.2.2.2.2.2)) (List.length ([(v.2.2.2.2.2.1,v.2.2.2.2.2.2.1,())]:List Dii))) (Dt.ret (v.1,v.2.2.1,v.2.2.2.2.2.2.2.1,v.2.2.2.2.2.2.2.2.1,v.2.2.2.2.2.2.2.2.2.1,v.2.2.2.2.2.2.2.2.2.2.1,((([(v.2.2.2.1,v.2.2.2.2.1,())]:List Dii)++v.2.2.2.2.2.2.2.2.2.2.2)++([(v.2.2.2.2.2.1,v.2.2.2.2.2.2.1,())]:List Dii)))) Dt.fail) Dt.fail)
theorem q3hu C v:q410 (regO (qct f8) 8) true [(3,(.box [.val Riii])),(7,.any),(8,.any),(9,.any),(13,(.own Rii))] q3hm q3ht q3hs C v:=rgI (by kernel_rfl)
abbrev q3hv:Type:=Bool×Bool×List Diii×Int×Int×Int×Int×List Dii
def q3hw (v:q3hv):St:=⟨[(3,.ptr 0 0),(7,.bool v.1),(8,.ptr 1 0),(9,.ptr 2 0),(13,.rs 3),(14,.bool v.2.1)],[.cells [.fz Riii v.2.2.1],.cells [i6 v.2.2.2.1,i6 v.2.2.2.2.1],.cells [i6 v.2.2.2.2.2.1,i6 v.2.2.2.2.2.2.1],.rows Rii v.2.2.2.2.2.2.2]⟩
def q3hx (C:q3gs) (v:q3hr):Dt q3hv:=(Dt.ret (v.1,false,v.2.1,v.2.2.1,v.2.2.2.1,v.2.2.2.2.1,v.2.2.2.2.2.1,v.2.2.2.2.2.2))
theorem q3hy C v:q410 (regO (qct f8) 9) false [(3,(.box [.val Riii])),(7,.any),(8,.any),(9,.any),(13,(.own Rii)),(14,.any)] q3hs q3hx q3hw C v:=rgI (by kernel_rfl)
abbrev q3hz:Type:=Bool×Bool×Int×List Diii×Int×Int×Int×Int×List Dii
def q3i0 (v:q3hz):St:=⟨[(3,.ptr 0 0),(7,.bool v.1),(8,.ptr 1 0),(9,.ptr 2 0),(13,.rs 3),(14,.bool v.2.1),(15,i6 v.2.2.1)],[.cells [.fz Riii v.2.2.2.1],.cells [i6 v.2.2.2.2.1,i6 v.2.2.2.2.2.1],.cells [i6 v.2.2.2.2.2.2.1,i6 v.2.2.2.2.2.2.2.1],.rows Rii v.2.2.2.2.2.2.2.2]⟩
def q3i1 (C:q3gs) (v:q3hv):Dt q3hz:=(Dt.ret (v.1,v.2.1,(0:Int),v.2.2.1,v.2.2.2.1,v.2.2.2.2.1,v.2.2.2.2.2.1,v.2.2.2.2.2.2.1,v.2.2.2.2.2.2.2))
theorem q3i2 C v:q410 (regO (qct f8) 10) false [(3,(.box [.val Riii])),(7,.any),(8,.any),(9,.any),(13,(.own Rii)),(14,.any),(15,.any)] q3hw q3i1 q3i0 C v:=rgI (by kernel_rfl)
abbrev q3i3:Type:=Bool×Bool×Int×Bool×List Diii×Int×Int×Int×Int×List Dii
def q3i4 (v:q3i3):St:=⟨[(3,.ptr 0 0),(7,.bool v.1),(8,.ptr 1 0),(9,.ptr 2 0),(13,.rs 3),(14,.bool v.2.1),(15,i6 v.2.2.1),(90,.bool v.2.2.2.1)],[.cells [.fz Riii v.2.2.2.2.1],.cells [i6 v.2.2.2.2.2.1,i6 v.2.2.2.2.2.2.1],.cells [i6 v.2.2.2.2.2.2.2.1,i6 v.2.2.2.2.2.2.2.2.1],.rows Rii v.2.2.2.2.2.2.2.2.2]⟩
def q3i5 (C:q3gs) (v:q3hz):Dt q3i3:=(Dt.ret (v.1,v.2.1,v.2.2.1,(decide (v.2.2.1<(List.length v.2.2.2.2.2.2.2.2:Int))),v.2.2.2.1,v.2.2.2.2.1,v.2.2.2.2.2.1,v.2.2.2.2.2.2.1,v.2.2.2.2.2.2.2.1,v.2.2.2.2.2.2.2.2))
theorem q3i6 C v:q410 (regO (qct f8) 11) false [(3,(.box [.val Riii])),(7,.any),(8,.any),(9,.any),(13,(.own Rii)),(14,.any),(15,.any),(90,.any)] q3i0 q3i5 q3i4 C v:=rgI (by kernel_rfl)
abbrev q3i7:Type:=Bool×Bool×Int×Int×List Diii×Int×Int×Int×Int×List Dii×Int×Int
def q3i8 (v:q3i7):St:=⟨[(3,.ptr 0 0),(7,.bool v.1),(8,.ptr 1 0),(9,.ptr 2 0),(13,.rs 3),(14,.bool v.2.1),(15,i6 v.2.2.1),(16,.ptr 4 0),(17,i6 v.2.2.2.1)],[.cells [.fz Riii v.2.2.2.2.1],.cells [i6 v.2.2.2.2.2.1,i6 v.2.2.2.2.2.2.1],.cells [i6 v.2.2.2.2.2.2.2.1,i6 v.2.2.2.2.2.2.2.2.1],.rows Rii v.2.2.2.2.2.2.2.2.2.1,.cells [i6 v.2.2.2.2.2.2.2.2.2.2.1,i6 v.2.2.2.2.2.2.2.2.2.2.2]]⟩
def q3i9 (C:q3gs) (v:q3i3):Dt q3i7:=(Dt.ite (inB v.2.2.1 (List.length v.2.2.2.2.2.2.2.2.2)) (Dt.bnd (C.2.2.2.1 ((v.2.2.2.2.1,()),((elt zii v.2.2.2.2.2.2.2.2.2 (v.2.2.1).toNat).1,(elt zii v.2.2.2.2.2.2.2.2.2 (v.2.2.1).toNat).2.1,()),())) fun r1=>(Dt.ret (v.1,v.2.1,v.2.2.1,r1.2.2,v.2.2.2.2.1,v.2.2.2.2.2.1,v.2.2.2.2.2.2.1,v.2.2.2.2.2.2.2.1,v.2.2.2.2.2.2.2.2.1,v.2.2.2.2.2.2.2.2.2,r1.1,r1.2.1))) Dt.fail)
theorem q3ia C v:q410 (regO (qct f8) 13) true [(3,(.box [.val Riii])),(7,.any),(8,.any),(9,.any),(13,(.own Rii)),(14,.any),(15,.any),(16,.any),(17,.any)] q3i4 q3i9 q3i8 C v:=rgI (by kernel_rfl)
abbrev q3ib:Type:=Bool×Bool×Int×Bool×List Diii×Int×Int×Int×Int×List Dii×Int×Int
def q3ic (v:q3ib):St:=⟨[(3,.ptr 0 0),(7,.bool v.1),(8,.ptr 1 0),(9,.ptr 2 0),(13,.rs 3),(14,.bool v.2.1),(15,i6 v.2.2.1),(16,.ptr 4 0),(122,.bool v.2.2.2.1)],[.cells [.fz Riii v.2.2.2.2.1],.cells [i6 v.2.2.2.2.2.1,i6 v.2.2.2.2.2.2.1],.cells [i6 v.2.2.2.2.2.2.2.1,i6 v.2.2.2.2.2.2.2.2.1],.rows Rii v.2.2.2.2.2.2.2.2.2.1,.cells [i6 v.2.2.2.2.2.2.2.2.2.2.1,i6 v.2.2.2.2.2.2.2.2.2.2.2]]⟩
def q3id (C:q3gs) (v:q3i7):Dt q3ib:=(Dt.ite (v.2.2.2.1 != (0:Int)) (Dt.ret (v.1,v.2.1,v.2.2.1,true,v.2.2.2.2.1,v.2.2.2.2.2.1,v.2.2.2.2.2.2.1,v.2.2.2.2.2.2.2.1,v.2.2.2.2.2.2.2.2.1,v.2.2.2.2.2.2.2.2.2.1,v.2.2.2.2.2.2.2.2.2.2.1,v.2.2.2.2.2.2.2.2.2.2.2)) (Dt.ite (inB v.2.2.1 (List.length v.2.2.2.2.2.2.2.2.2.1)) (Dt.bnd (C.2.1 (((elt zii v.2.2.2.2.2.2.2.2.2.1 (v.2.2.1).toNat).1,(elt zii v.2.2.2.2.2.2.2.2.2.1 (v.2.2.1).toNat).2.1,()),())) fun r1=>(Dt.ite (r1 != (0:Int)) (Dt.ret (v.1,v.2.1,v.2.2.1,true,v.2.2.2.2.1,v.2.2.2.2.2.1,v.2.2.2.2.2.2.1,v.2.2.2.2.2.2.2.1,v.2.2.2.2.2.2.2.2.1,v.2.2.2.2.2.2.2.2.2.1,v.2.2.2.2.2.2.2.2.2.2.1,v.2.2.2.2.2.2.2.2.2.2.2)) (Dt.bnd (C.2.1 ((v.2.2.2.2.2.2.2.2.2.2.1,v.2.2.2.2.2.2.2.2.2.2.2,()),())) fun r2=>(Dt.ite (r2 != (0:Int)) (Dt.ret (v.1,v.2.1,v.2.2.1,true,v.2.2.2.2.1,v.2.2.2.2.2.1,v.2.2.2.2.2.2.1,v.2.2.2.2.2.2.2.1,v.2.2.2.2.2.2.2.2.1,v.2.2.2.2.2.2.2.2.2.1,v.2.2.2.2.2.2.2.2.2.2.1,v.2.2.2.2.2.2.2.2.2.2.2)) (Dt.bnd (C.2.2.2.2.2.2.2.2.1 ((v.2.2.2.2.2.2.2.1,v.2.2.2.2.2.2.2.2.1,()),(v.2.2.2.2.2.2.2.2.2.2.1,v.2.2.2.2.2.2.2.2.2.2.2,()),())) fun r3=>(Dt.ret (v.1,v.2.1,v.2.2.1,(decide (r3 > (0:Int))),v.2.2.2.2.1,v.2.2.2.2.2.1,v.2.2.2.2.2.2.1,v.2.2.2.2.2.2.2.1,v.2.2.2.2.2.2.2.2.1,v.2.2.2.2.2.2.2.2.2.1,v.2.2.2.2.2.2.2.2.2.2.1,v.2.2.2.2.2.2.2.2.2.2.2))))))) Dt.fail))
theorem q3ie C v:q410 (regO (qct f8) 14) false [(3,(.box [.val Riii])),(7,.any),(8,.any),(9,.any),(13,(.own Rii)),(14,.any),(15,.any),(16,.any),(122,.any)] q3i8 q3id q3ic C v:=rgI (by kernel_rfl)
def q3if (C:q3gs) (v:q3ib):Dt q3h9:=(Dt.ret false)
theorem q3ig C v:q410 (regO (qct f8) 15) false [(6,.any)] q3ic q3if q3ha C v:=rgI (by kernel_rfl)
abbrev q3ih:Type:=Bool×Bool×Int×Bool×List Diii×Int×Int×Int×Int×List Dii×Int×Int
def q3ii (v:q3ih):St:=⟨[(3,.ptr 0 0),(7,.bool v.1),(8,.ptr 1 0),(9,.ptr 2 0),(13,.rs 3),(14,.bool v.2.1),(15,i6 v.2.2.1),(16,.ptr 4 0),(128,.bool v.2.2.2.1)],[.cells [.fz Riii v.2.2.2.2.1],.cells [i6 v.2.2.2.2.2.1,i6 v.2.2.2.2.2.2.1],.cells [i6 v.2.2.2.2.2.2.2.1,i6 v.2.2.2.2.2.2.2.2.1],.rows Rii v.2.2.2.2.2.2.2.2.2.1,.cells [i6 v.2.2.2.2.2.2.2.2.2.2.1,i6 v.2.2.2.2.2.2.2.2.2.2.2]]⟩
def q3ij (C:q3gs) (v:q3ib):Dt q3ih:=(Dt.ite (inB v.2.2.1 (List.length v.2.2.2.2.2.2.2.2.2.1)) (Dt.ret (v.1,v.2.1,v.2.2.1,(((elt zii v.2.2.2.2.2.2.2.2.2.1 (v.2.2.1).toNat).1 == v.2.2.2.2.2.1)&&(((elt zii v.2.2.2.2.2.2.2.2.2.1 (v.2.2.1).toNat).2.1 == v.2.2.2.2.2.2.1)&&true)),v.2.2.2.2.1,v.2.2.2.2.2.1,v.2.2.2.2.2.2.1,v.2.2.2.2.2.2.2.1,v.2.2.2.2.2.2.2.2.1,v.2.2.2.2.2.2.2.2.2.1,v.2.2.2.2.2.2.2.2.2.2.1,v.2.2.2.2.2.2.2.2.2.2.2)) Dt.fail)
theorem q3ik C v:q410 (regO (qct f8) 16) true [(3,(.box [.val Riii])),(7,.any),(8,.any),(9,.any),(13,(.own Rii)),(14,.any),(15,.any),(16,.any),(128,.any)] q3ic q3ij q3ii C v:=rgI (by kernel_rfl)
abbrev q3il:Type:=Bool×Bool×Int×List Diii×Int×Int×Int×Int×List Dii×Int×Int
def q3im (v:q3il):St:=⟨[(3,.ptr 0 0),(7,.bool v.1),(8,.ptr 1 0),(9,.ptr 2 0),(13,.rs 3),(14,.bool v.2.1),(15,i6 v.2.2.1),(16,.ptr 4 0)],[.cells [.fz Riii v.2.2.2.1],.cells [i6 v.2.2.2.2.1,i6 v.2.2.2.2.2.1],.cells [i6 v.2.2.2.2.2.2.1,i6 v.2.2.2.2.2.2.2.1],.rows Rii v.2.2.2.2.2.2.2.2.1,.cells [i6 v.2.2.2.2.2.2.2.2.2.1,i6 v.2.2.2.2.2.2.2.2.2.2]]⟩
def q3in (C:q3gs) (v:q3ih):Dt q3il:=(Dt.ret (v.1,true,v.2.2.1,v.2.2.2.2.1,v.2.2.2.2.2.1,v.2.2.2.2.2.2.1,v.2.2.2.2.2.2.2.1,v.2.2.2.2.2.2.2.2.1,v.2.2.2.2.2.2.2.2.2.1,v.2.2.2.2.2.2.2.2.2.2.1,v.2.2.2.2.2.2.2.2.2.2.2))
theorem q3io C v:q410 (regO (qct f8) 17) false [(3,(.box [.val Riii])),(7,.any),(8,.any),(9,.any),(13,(.own Rii)),(14,.any),(15,.any),(16,.any)] q3ii q3in q3im C v:=rgI (by kernel_rfl)
abbrev q3ip:Type:=Bool×Bool×Int×Bool×List Diii×Int×Int×Int×Int×List Dii×Int×Int
def q3iq (v:q3ip):St:=⟨[(3,.ptr 0 0),(7,.bool v.1),(8,.ptr 1 0),(9,.ptr 2 0),(13,.rs 3),(14,.bool v.2.1),(15,i6 v.2.2.1),(16,.ptr 4 0),(131,.bool v.2.2.2.1)],[.cells [.fz Riii v.2.2.2.2.1],.cells [i6 v.2.2.2.2.2.1,i6 v.2.2.2.2.2.2.1],.cells [i6 v.2.2.2.2.2.2.2.1,i6 v.2.2.2.2.2.2.2.2.1],.rows Rii v.2.2.2.2.2.2.2.2.2.1,.cells [i6 v.2.2.2.2.2.2.2.2.2.2.1,i6 v.2.2.2.2.2.2.2.2.2.2.2]]⟩
def q3ir (C:q3gs) (v:q3il):Dt q3ip:=(Dt.ret (v.1,v.2.1,v.2.2.1,(!((v.2.2.2.2.2.2.2.2.2.1 == v.2.2.2.2.2.2.1)&&((v.2.2.2.2.2.2.2.2.2.2 == v.2.2.2.2.2.2.2.1)&&true))),v.2.2.2.1,v.2.2.2.2.1,v.2.2.2.2.2.1,v.2.2.2.2.2.2.1,v.2.2.2.2.2.2.2.1,v.2.2.2.2.2.2.2.2.1,v.2.2.2.2.2.2.2.2.2.1,v.2.2.2.2.2.2.2.2.2.2))
theorem q3is C v:q410 (regO (qct f8) 18) false [(3,(.box [.val Riii])),(7,.any),(8,.any),(9,.any),(13,(.own Rii)),(14,.any),(15,.any),(16,.any),(131,.any)] q3im q3ir q3iq C v:=rgI (by kernel_rfl)
def q3it (C:q3gs) (v:q3ip):Dt q3h9:=(Dt.ret false)
theorem q3iu C v:q410 (regO (qct f8) 19) false [(6,.any)] q3iq q3it q3ha C v:=rgI (by kernel_rfl)
abbrev q3iv:Type:=Bool×Bool×Int×Bool×List Diii×Int×Int×Int×Int×List Dii
def q3iw (v:q3iv):St:=⟨[(3,.ptr 0 0),(7,.bool v.1),(8,.ptr 1 0),(9,.ptr 2 0),(13,.rs 3),(14,.bool v.2.1),(15,i6 v.2.2.1),(143,.bool v.2.2.2.1)],[.cells [.fz Riii v.2.2.2.2.1],.cells [i6 v.2.2.2.2.2.1,i6 v.2.2.2.2.2.2.1],.cells [i6 v.2.2.2.2.2.2.2.1,i6 v.2.2.2.2.2.2.2.2.1],.rows Rii v.2.2.2.2.2.2.2.2.2]⟩
def q3ix (C:q3gs) (v:q3il):Dt q3iv:=(Dt.ite (inB v.2.2.1 (List.length v.2.2.2.2.2.2.2.2.1)) (Dt.bnd (C.2.2.2.2.2.2.2.2.1 (((elt zii v.2.2.2.2.2.2.2.2.1 (v.2.2.1).toNat).1,(elt zii v.2.2.2.2.2.2.2.2.1 (v.2.2.1).toNat).2.1,()),(v.2.2.2.2.1,v.2.2.2.2.2.1,()),())) fun r1=>(Dt.ite (decide (r1<(0:Int))) (Dt.ret (v.1,v.2.1,v.2.2.1,((v.2.2.2.2.2.2.2.2.2.1 == v.2.2.2.2.2.2.1)&&((v.2.2.2.2.2.2.2.2.2.2 == v.2.2.2.2.2.2.2.1)&&true)),v.2.2.2.1,v.2.2.2.2.1,v.2.2.2.2.2.1,v.2.2.2.2.2.2.1,v.2.2.2.2.2.2.2.1,v.2.2.2.2.2.2.2.2.1)) (Dt.ret (v.1,v.2.1,v.2.2.1,false,v.2.2.2.1,v.2.2.2.2.1,v.2.2.2.2.2.1,v.2.2.2.2.2.2.1,v.2.2.2.2.2.2.2.1,v.2.2.2.2.2.2.2.2.1)))) Dt.fail)
theorem q3iy C v:q410 (regO (qct f8) 20) true [(3,(.box [.val Riii])),(7,.any),(8,.any),(9,.any),(13,(.own Rii)),(14,.any),(15,.any),(143,.any)] q3im q3ix q3iw C v:=rgI (by kernel_rfl)
def q3iz (C:q3gs) (v:q3iv):Dt q3h9:=(Dt.ret false)
theorem q3j0 C v:q410 (regO (qct f8) 21) false [(6,.any)] q3iw q3iz q3ha C v:=rgI (by kernel_rfl)
def q3j1 (C:q3gs) (v:q3iv):Dt q3hz:=(Dt.ret (v.1,v.2.1,(IntKind.wrap .i64 (v.2.2.1+(1:Int))),v.2.2.2.2.1,v.2.2.2.2.2.1,v.2.2.2.2.2.2.1,v.2.2.2.2.2.2.2.1,v.2.2.2.2.2.2.2.2.1,v.2.2.2.2.2.2.2.2.2))
theorem q3j2 C v:q410 (regO (qct f8) 12) false [(3,(.box [.val Riii])),(7,.any),(8,.any),(9,.any),(13,(.own Rii)),(14,.any),(15,.any)] q3iw q3j1 q3i0 C v:=rgI (by kernel_rfl)
def q3j3  (d:Nat) (self1:(Bool×Bool×Int×List Diii×Int×Int×Int×Int×List Dii)→Option q3gp) (z:Bool×Bool×Int×List Diii×Int×Int×Int×Int×List Dii×Int×Int):Option (q3gp) :=
 (q3ix (q3gt d) z).eval fun y20 =>
 bif y20.2.2.2.1 then ((q3iz (q3gt d) y20).eval fun y21 =>
 some y21) else ((q3j1 (q3gt d) y20).eval fun y12 =>
 self1 y12)
def q3j4 (C:q3gs) (v:q3i3):Dt q3h9:=(Dt.ite v.1 (Dt.ret v.2.1) (Dt.ret false))
theorem q3j5 C v:q410 (regO (qct f8) 22) false [(6,.any)] q3i4 q3j4 q3ha C v:=rgI (by kernel_rfl)
def q3j6 (d:Nat) (self1:(Bool×Bool×Int×List Diii×Int×Int×Int×Int×List Dii)→Option q3gp) (x1:Bool×Bool×Int×List Diii×Int×Int×Int×Int×List Dii):Option q3gp :=
 (q3i5 (q3gt d) x1).eval fun y11 =>
 bif y11.2.2.2.1 then ((q3i9 (q3gt d) y11).eval fun y13 =>
 (q3id (q3gt d) y13).eval fun y14 =>
 bif y14.2.2.2.1 then ((q3if (q3gt d) y14).eval fun y15 =>
 some y15) else ((q3ij (q3gt d) y14).eval fun y16 =>
 bif y16.2.2.2.1 then ((q3in (q3gt d) y16).eval fun y17 =>
 (q3ir (q3gt d) y17).eval fun y18 =>
 bif y18.2.2.2.1 then ((q3it (q3gt d) y18).eval fun y19 =>
 some y19) else (q3j3 d self1 (y18.1,y18.2.1,y18.2.2.1,y18.2.2.2.2.1,y18.2.2.2.2.2.1,y18.2.2.2.2.2.2.1,y18.2.2.2.2.2.2.2.1,y18.2.2.2.2.2.2.2.2.1,y18.2.2.2.2.2.2.2.2.2.1,y18.2.2.2.2.2.2.2.2.2.2.1,y18.2.2.2.2.2.2.2.2.2.2.2))) else (q3j3 d self1 (y16.1,y16.2.1,y16.2.2.1,y16.2.2.2.2.1,y16.2.2.2.2.2.1,y16.2.2.2.2.2.2.1,y16.2.2.2.2.2.2.2.1,y16.2.2.2.2.2.2.2.2.1,y16.2.2.2.2.2.2.2.2.2.1,y16.2.2.2.2.2.2.2.2.2.2.1,y16.2.2.2.2.2.2.2.2.2.2.2)))) else ((q3j4 (q3gt d) y11).eval fun y22 =>
 some y22)
def q3j7 (d:Nat) (x:q3go):Option q3gp :=
 (q3gz (q3gt d) (x.1.1,x.2.1.1,x.2.1.2.1,x.2.2.1.1,x.2.2.1.2.1)).eval fun y0 =>
 (q3h3 (q3gt d) y0).eval fun y1 =>
 (q3h7 (q3gt d) y1).eval fun y2 =>
 bif y2.2.1 then ((q3hb (q3gt d) y2).eval fun y3 =>
 some y3) else ((q3hf (q3gt d) y2).eval fun y4 =>
 (q3hj (q3gt d) y4).eval fun y5 =>
 (q3hn (q3gt d) y5).eval fun y6 =>
 bif y6.2.1 then ((q3hp (q3gt d) y6).eval fun y7 =>
 some y7) else ((q3ht (q3gt d) y6).eval fun y8 =>
 (q3hx (q3gt d) y8).eval fun y9 =>
 (q3i1 (q3gt d) y9).eval fun y10 =>
 iter (q3j6 d ) d y10))
theorem q3j8 (d:Nat):COK prog (q3gr (q3j7 d)):=by
 have hm:prog.follows .mixedOrders=true:=mixed
 have hT:=tys
 have hC0:OrcOK prog (orc (q3gu (q3gt d))):=qcn (by
  intro S hS
  simp only [q3gu,List.mem_cons,List.not_mem_nil,or_false] at hS
  rcases hS with rfl | rfl | rfl | rfl | rfl | rfl | rfl | rfl | rfl
  · exact q2r7 d
  · exact qn6 d
  · exact q38s d
  · exact q2gc d
  · exact q2kb d
  · exact q2nv d
  · exact q3d4 d
  · exact q3gm d
  · exact q2px d)
 have hC:OrcOK prog (orc (q3gu (q3gt d))):=hC0
 refine q8c (c:=qct f8) (fn:=f8) hT (by kernel_rfl) (by kernel_rfl) (by decide) fun x r h w0 φ0 Q hend=>?_
 replace h:q3j7 d x=some r:=h
 unfold q3j7 at h
 show Run prog w0 φ0 148 (qct f8) ⟨[(0,.agg [.fz Riii x.1.1]),(1,.agg [.int .i64 x.2.1.1,.int .i64 x.2.1.2.1]),(2,.agg [.int .i64 x.2.2.1.1,.int .i64 x.2.2.1.2.1])],[]⟩ Q
 refine q3yo hm hT hC (q3h0 (q3gt d) (x.1.1,x.2.1.1,x.2.1.2.1,x.2.2.1.1,x.2.2.1.2.1)) h fun y0 h=>?_
 refine q3yo hm hT hC (q3h4 (q3gt d) y0) h fun y1 h=>?_
 refine q7w ?_
 refine q3yo hm hT hC (q3h8 (q3gt d) y1) h fun y2 h=>?_
 refine q80 (v:=y2.2.1) (by kernel_rfl) h ?_ ?_
 ·
  intro h
  refine q3yo hm hT hC (q3hc (q3gt d) y2) h fun y3 h=>?_
  refine q7v (q7k ?_)
  cases h
  exact (hend _ (by kernel_rfl)).2
 ·
  intro h
  refine q7s (q7i ?_)
  refine q3yo hm hT hC (q3hg (q3gt d) y2) h fun y4 h=>?_
  refine q3yo hm hT hC (q3hk (q3gt d) y4) h fun y5 h=>?_
  refine q7w ?_
  refine q3yo hm hT hC (q3ho (q3gt d) y5) h fun y6 h=>?_
  refine q80 (v:=y6.2.1) (by kernel_rfl) h ?_ ?_
  ·
   intro h
   refine q3yo hm hT hC (q3hq (q3gt d) y6) h fun y7 h=>?_
   refine q7v (q7k ?_)
   cases h
   exact (hend _ (by kernel_rfl)).2
  ·
   intro h
   refine q7s (q7i ?_)
   refine q3yo hm hT hC (q3hu (q3gt d) y6) h fun y8 h=>?_
   refine q3yo hm hT hC (q3hy (q3gt d) y8) h fun y9 h=>?_
   refine q7w ?_
   refine q3yo hm hT hC (q3i2 (q3gt d) y9) h fun y10 h=>?_
   refine q7x ?_
   refine q82 (G:=iter (q3j6 d )) (S:=(fun x1=>⟨[(3,.ptr 0 0),(7,.bool x1.1),(8,.ptr 1 0),(9,.ptr 2 0),(13,.rs 3),(14,.bool x1.2.1),(15,i6 x1.2.2.1)],[.cells [.fz Riii x1.2.2.2.1],.cells [i6 x1.2.2.2.2.1,i6 x1.2.2.2.2.2.1],.cells [i6 x1.2.2.2.2.2.2.1,i6 x1.2.2.2.2.2.2.2.1],.rows Rii x1.2.2.2.2.2.2.2.2]⟩:Bool×Bool×Int×List Diii×Int×Int×Int×Int×List Dii→St)) (fun _=>rfl) ?_ d _ h
   intro n1 x1 h K1 hn1
   replace h:q3j6 d  (iter (q3j6 d ) n1) x1=some r:=h
   generalize iter (q3j6 d ) n1=self1 at h hn1
   unfold q3j6 at h
   refine q7w ?_
   refine q3yo hm hT hC (q3i6 (q3gt d) x1) h fun y11 h=>?_
   refine q80 (v:=y11.2.2.2.1) (by kernel_rfl) h ?_ ?_
   ·
    intro h
    refine q7s (q7i (q7w (q7x ?_)))
    refine q3yo hm hT hC (q3ia (q3gt d) y11) h fun y13 h=>?_
    refine q7w ?_
    refine q3yo hm hT hC (q3ie (q3gt d) y13) h fun y14 h=>?_
    refine q80 (v:=y14.2.2.2.1) (by kernel_rfl) h ?_ ?_
    ·
     intro h
     refine q3yo hm hT hC (q3ig (q3gt d) y14) h fun y15 h=>?_
     refine q7v (q7k (q7m (q7k (q7k (q7m (q7k ?_))))))
     cases h
     exact (hend _ (by kernel_rfl)).2
    ·
     intro h
     refine q7s (q7i ?_)
     refine q7z (r:=r) (F:=q3j3 d self1) (S:=(fun z=>⟨[(3,.ptr 0 0),(7,.bool z.1),(8,.ptr 1 0),(9,.ptr 2 0),(13,.rs 3),(14,.bool z.2.1),(15,i6 z.2.2.1),(16,.ptr 4 0)],[.cells [.fz Riii z.2.2.2.1],.cells [i6 z.2.2.2.2.1,i6 z.2.2.2.2.2.1],.cells [i6 z.2.2.2.2.2.2.1,i6 z.2.2.2.2.2.2.2.1],.rows Rii z.2.2.2.2.2.2.2.2.1,.cells [i6 z.2.2.2.2.2.2.2.2.2.1,i6 z.2.2.2.2.2.2.2.2.2.2]]⟩:Bool×Bool×Int×List Diii×Int×Int×Int×Int×List Dii×Int×Int→St)) ?_ ?_
     ·
      intro z h
      unfold q3j3 at h
      refine q3yo hm hT hC (q3iy (q3gt d) z) h fun y20 h=>?_
      refine q80 (v:=y20.2.2.2.1) (by kernel_rfl) h ?_ ?_
      ·
       intro h
       refine q3yo hm hT hC (q3j0 (q3gt d) y20) h fun y21 h=>?_
       refine q7v (q7m (q7k (q7k (q7m (q7k ?_)))))
       cases h
       exact (hend _ (by kernel_rfl)).2
      ·
       intro h
       refine q7s (q7l (q7i ?_))
       refine q81 hm hT hC (q3j2 (q3gt d) y20) h ?_
       intro y12 h
       exact hn1 _ h
     intro hj2
     refine q3yo hm hT hC (q3ik (q3gt d) y14) h fun y16 h=>?_
     refine q80 (v:=y16.2.2.2.1) (by kernel_rfl) h ?_ ?_
     ·
      intro h
      refine q3yo hm hT hC (q3io (q3gt d) y16) h fun y17 h=>?_
      refine q3yo hm hT hC (q3is (q3gt d) y17) h fun y18 h=>?_
      refine q80 (v:=y18.2.2.2.1) (by kernel_rfl) h ?_ ?_
      ·
       intro h
       refine q3yo hm hT hC (q3iu (q3gt d) y18) h fun y19 h=>?_
       refine q7v (q7k (q7m (q7k (q7k (q7m (q7k ?_))))))
       cases h
       exact (hend _ (by kernel_rfl)).2
      ·
       intro h
       refine q7s ?_
       refine qcs (s:=⟨[(3,.ptr 0 0),(7,.bool y18.1),(8,.ptr 1 0),(9,.ptr 2 0),(13,.rs 3),(14,.bool y18.2.1),(15,.int .i64 y18.2.2.1),(16,.ptr 4 0)],[.cells [.fz Riii y18.2.2.2.2.1],.cells [.int .i64 y18.2.2.2.2.2.1,.int .i64 y18.2.2.2.2.2.2.1],.cells [.int .i64 y18.2.2.2.2.2.2.2.1,.int .i64 y18.2.2.2.2.2.2.2.2.1],.rows Rii y18.2.2.2.2.2.2.2.2.2.1,.cells [.int .i64 y18.2.2.2.2.2.2.2.2.2.2.1,.int .i64 y18.2.2.2.2.2.2.2.2.2.2.2]]⟩) [131] (by kernel_rfl) ?_
       exact hj2 _ h
     ·
      intro h
      refine q7s ?_
      refine qcs (s:=⟨[(3,.ptr 0 0),(7,.bool y16.1),(8,.ptr 1 0),(9,.ptr 2 0),(13,.rs 3),(14,.bool y16.2.1),(15,.int .i64 y16.2.2.1),(16,.ptr 4 0)],[.cells [.fz Riii y16.2.2.2.2.1],.cells [.int .i64 y16.2.2.2.2.2.1,.int .i64 y16.2.2.2.2.2.2.1],.cells [.int .i64 y16.2.2.2.2.2.2.2.1,.int .i64 y16.2.2.2.2.2.2.2.2.1],.rows Rii y16.2.2.2.2.2.2.2.2.2.1,.cells [.int .i64 y16.2.2.2.2.2.2.2.2.2.2.1,.int .i64 y16.2.2.2.2.2.2.2.2.2.2.2]]⟩) [128] (by kernel_rfl) ?_
      exact hj2 _ h
   ·
    intro h
    refine q7u (q7j (q7j (q7n (q7i ?_))))
    refine q3yo hm hT hC (q3j5 (q3gt d) y11) h fun y22 h=>?_
    refine q7v ?_
    cases h
    exact (hend _ (by kernel_rfl)).2
abbrev q3j9:List Pk:=[.row qj5 true,.row Rii true,.row Ri false]
abbrev q3ja:Type:=qj6×Dii×Di×Unit
abbrev q3jb:Type:=Bool
def q3jc (r:q3jb):LV×List Ob:=(.bool r,[])
def q3jd (F:q3ja→Option q3jb):Go.Tx.Spec:=⟨9,q3j9,q3jb,F,q3jc⟩
abbrev q3je:Type:=(qw6→Option qw7)×(q38a→Option q38b)×(q2dy→Option q2dz)×(q2ew→Option q2ex)×(q2ge→Option q2gf)×(q3c0→Option q3c1)×(qvo→Option qvp)×(q381→Option q382)×Unit
def q3jf (d:Nat):q3je:=(qwb d,q38r d,q2et d,q2gb d,q2h9 d,q3d3 d,qvt d,q386 d,())
def q3jg (C:q3je):List Go.Tx.Spec:=[qw9 C.1,q38d C.2.1,q2e1 C.2.2.1,q2ez C.2.2.2.1,q2gh C.2.2.2.2.1,q3c3 C.2.2.2.2.2.1,qvr C.2.2.2.2.2.2.1,q384 C.2.2.2.2.2.2.2.1]
abbrev q3jh:Type:=List Diii×Int×Int×Int
def q3ji (v:q3jh):St:=⟨[(0,.agg [.fz Riii v.1]),(1,.agg [i6 v.2.1,i6 v.2.2.1]),(2,i6 v.2.2.2)],[]⟩
abbrev q3jj:Type:=Int×List Diii×Int×Int
def q3jk (v:q3jj):St:=⟨[(2,i6 v.1),(3,.ptr 0 0),(4,.ptr 1 0)],[.cells [.fz Riii v.2.1],.cells [i6 v.2.2.1,i6 v.2.2.2]]⟩
def q3jl (C:q3je) (v:q3jh):Dt q3jj:=(Dt.ret (v.2.2.2,v.1,v.2.1,v.2.2.1))
abbrev q411 {V Y:Type}:=@rg q3je V Y tysT (fun C=>(orc (q3jg C))) 158
theorem q3jm C v:q411 (regO (qct f9) 0) false [(2,.any),(3,(.box [.val Riii])),(4,.any)] q3ji q3jl q3jk C v:=rgI (by kernel_rfl)
abbrev q3jn:Type:=Int×Bool×List Diii×Int×Int
def q3jo (v:q3jn):St:=⟨[(2,i6 v.1),(3,.ptr 0 0),(4,.ptr 1 0),(7,.bool v.2.1)],[.cells [.fz Riii v.2.2.1],.cells [i6 v.2.2.2.1,i6 v.2.2.2.2]]⟩
def q3jp (C:q3je) (v:q3jj):Dt q3jn:=(Dt.bnd (C.2.2.2.2.2.1 (())) fun r1=>(Dt.ret (v.1,r1,v.2.1,v.2.2.1,v.2.2.2)))
theorem q3jq C v:q411 (regO (qct f9) 1) false [(2,.any),(3,(.box [.val Riii])),(4,.any),(7,.any)] q3jk q3jp q3jo C v:=rgI (by kernel_rfl)
abbrev q3jr:Type:=Int×Bool×Bool×List Diii×Int×Int
def q3js (v:q3jr):St:=⟨[(2,i6 v.1),(3,.ptr 0 0),(4,.ptr 1 0),(7,.bool v.2.1),(41,.bool v.2.2.1)],[.cells [.fz Riii v.2.2.2.1],.cells [i6 v.2.2.2.2.1,i6 v.2.2.2.2.2]]⟩
def q3jt (C:q3je) (v:q3jn):Dt q3jr:=(Dt.bnd (C.2.1 ((v.2.2.1,()),())) fun r1=>(Dt.ite r1 (Dt.ret (v.1,v.2.1,true,v.2.2.1,v.2.2.2.1,v.2.2.2.2)) (Dt.bnd (C.2.2.2.2.2.2.1 ((v.2.2.1,()),(v.2.2.2.1,v.2.2.2.2,()),())) fun r2=>(Dt.ite (r2 != (0:Int)) (Dt.ret (v.1,v.2.1,true,v.2.2.1,v.2.2.2.1,v.2.2.2.2)) (Dt.ite ((List.length v.2.2.1:Int) == (0:Int)) (Dt.ret (v.1,v.2.1,true,v.2.2.1,v.2.2.2.1,v.2.2.2.2)) (Dt.ret (v.1,v.2.1,(!v.2.1),v.2.2.1,v.2.2.2.1,v.2.2.2.2)))))))
theorem q3ju C v:q411 (regO (qct f9) 2) false [(2,.any),(3,(.box [.val Riii])),(4,.any),(7,.any),(41,.any)] q3jo q3jt q3js C v:=rgI (by kernel_rfl)
abbrev q3jv:Type:=Bool
def q3jw (v:q3jv):St:=⟨[(6,.bool v)],[]⟩
def q3jx (C:q3je) (v:q3jr):Dt q3jv:=(Dt.ret v.2.1)
theorem q3jy C v:q411 (regO (qct f9) 3) false [(6,.any)] q3js q3jx q3jw C v:=rgI (by kernel_rfl)
abbrev q3jz:Type:=Int×Bool×Int×List Diii×Int×Int×List Di
def q3k0 (v:q3jz):St:=⟨[(2,i6 v.1),(3,.ptr 0 0),(4,.ptr 1 0),(7,.bool v.2.1),(8,.rs 2),(9,i6 v.2.2.1)],[.cells [.fz Riii v.2.2.2.1],.cells [i6 v.2.2.2.2.1,i6 v.2.2.2.2.2.1],.rows Ri v.2.2.2.2.2.2]⟩
def q3k1 (C:q3je) (v:q3jr):Dt q3jz:=(Dt.bnd (C.1 ((v.2.2.2.1,()),(v.2.2.2.2.1,v.2.2.2.2.2,()),())) fun r1=>(Dt.ret (v.1,v.2.1,r1.2,v.2.2.2.1,v.2.2.2.2.1,v.2.2.2.2.2,r1.1)))
theorem q3k2 C v:q411 (regO (qct f9) 4) false [(2,.any),(3,(.box [.val Riii])),(4,.any),(7,.any),(8,(.own Ri)),(9,.any)] q3js q3k1 q3k0 C v:=rgI (by kernel_rfl)
abbrev q3k3:Type:=Int×Bool×Int×Int×Int×Int×List Diii×Int×Int×List Di
def q3k4 (v:q3k3):St:=⟨[(2,i6 v.1),(3,.ptr 0 0),(4,.ptr 1 0),(7,.bool v.2.1),(8,.rs 2),(9,i6 v.2.2.1),(10,i6 v.2.2.2.1),(11,i6 v.2.2.2.2.1),(12,i6 v.2.2.2.2.2.1)],[.cells [.fz Riii v.2.2.2.2.2.2.1],.cells [i6 v.2.2.2.2.2.2.2.1,i6 v.2.2.2.2.2.2.2.2.1],.rows Ri v.2.2.2.2.2.2.2.2.2]⟩
def q3k5 (C:q3je) (v:q3jz):Dt q3k3:=(Dt.bnd (C.2.2.1 ((v.2.2.2.1,()),(v.2.2.2.2.1,v.2.2.2.2.2.1,()),())) fun r1=>(Dt.ret (v.1,v.2.1,v.2.2.1,r1.1,r1.2.1,r1.2.2,v.2.2.2.1,v.2.2.2.2.1,v.2.2.2.2.2.1,v.2.2.2.2.2.2)))
theorem q3k6 C v:q411 (regO (qct f9) 5) false [(2,.any),(3,(.box [.val Riii])),(4,.any),(7,.any),(8,(.own Ri)),(9,.any),(10,.any),(11,.any),(12,.any)] q3k0 q3k5 q3k4 C v:=rgI (by kernel_rfl)
abbrev q3k7:Type:=Int×Bool×Bool×List Diii×Int×Int×List Di
def q3k8 (v:q3k7):St:=⟨[(2,i6 v.1),(3,.ptr 0 0),(4,.ptr 1 0),(7,.bool v.2.1),(8,.rs 2),(86,.bool v.2.2.1)],[.cells [.fz Riii v.2.2.2.1],.cells [i6 v.2.2.2.2.1,i6 v.2.2.2.2.2.1],.rows Ri v.2.2.2.2.2.2]⟩
def q3k9 (C:q3je) (v:q3k3):Dt q3k7:=(Dt.ite (v.2.2.1 != (0:Int)) (Dt.ret (v.1,v.2.1,true,v.2.2.2.2.2.2.1,v.2.2.2.2.2.2.2.1,v.2.2.2.2.2.2.2.2.1,v.2.2.2.2.2.2.2.2.2)) (Dt.ite ((List.length v.2.2.2.2.2.2.2.2.2:Int) != (List.length v.2.2.2.2.2.2.1:Int)) (Dt.ret (v.1,v.2.1,true,v.2.2.2.2.2.2.1,v.2.2.2.2.2.2.2.1,v.2.2.2.2.2.2.2.2.1,v.2.2.2.2.2.2.2.2.2)) (Dt.ite (v.2.2.2.2.2.1 != (0:Int)) (Dt.ret (v.1,v.2.1,true,v.2.2.2.2.2.2.1,v.2.2.2.2.2.2.2.1,v.2.2.2.2.2.2.2.2.1,v.2.2.2.2.2.2.2.2.2)) (Dt.ite (inB (0:Int) (List.length v.2.2.2.2.2.2.2.2.2)) (Dt.ite (v.2.2.2.1 != (elt zi v.2.2.2.2.2.2.2.2.2 ((0:Int)).toNat).1) (Dt.ret (v.1,v.2.1,true,v.2.2.2.2.2.2.1,v.2.2.2.2.2.2.2.1,v.2.2.2.2.2.2.2.2.1,v.2.2.2.2.2.2.2.2.2)) (Dt.ite (inB (IntKind.wrap .i64 ((List.length v.2.2.2.2.2.2.2.2.2:Int) - (1:Int))) (List.length v.2.2.2.2.2.2.2.2.2)) (Dt.ret (v.1,v.2.1,(v.2.2.2.2.1 != (elt zi v.2.2.2.2.2.2.2.2.2 ((IntKind.wrap .i64 ((List.length v.2.2.2.2.2.2.2.2.2:Int) - (1:Int)))).toNat).1),v.2.2.2.2.2.2.1,v.2.2.2.2.2.2.2.1,v.2.2.2.2.2.2.2.2.1,v.2.2.2.2.2.2.2.2.2)) Dt.fail)) Dt.fail))))
theorem q3ka C v:q411 (regO (qct f9) 6) false [(2,.any),(3,(.box [.val Riii])),(4,.any),(7,.any),(8,(.own Ri)),(86,.any)] q3k4 q3k9 q3k8 C v:=rgI (by kernel_rfl)
def q3kb (C:q3je) (v:q3k7):Dt q3jv:=(Dt.ret false)
theorem q3kc C v:q411 (regO (qct f9) 7) false [(6,.any)] q3k8 q3kb q3jw C v:=rgI (by kernel_rfl)
abbrev q3kd:Type:=Int×Bool×Bool×List Diii×Int×Int×List Di
def q3ke (v:q3kd):St:=⟨[(2,i6 v.1),(3,.ptr 0 0),(4,.ptr 1 0),(7,.bool v.2.1),(8,.rs 2),(95,.bool v.2.2.1)],[.cells [.fz Riii v.2.2.2.1],.cells [i6 v.2.2.2.2.1,i6 v.2.2.2.2.2.1],.rows Ri v.2.2.2.2.2.2]⟩
def q3kf (C:q3je) (v:q3k7):Dt q3kd:=(Dt.ite (decide (v.1<(1:Int))) (Dt.ret (v.1,v.2.1,true,v.2.2.2.1,v.2.2.2.2.1,v.2.2.2.2.2.1,v.2.2.2.2.2.2)) (Dt.ret (v.1,v.2.1,(decide (v.1≥(IntKind.wrap .i64 ((List.length v.2.2.2.2.2.2:Int) - (1:Int))))),v.2.2.2.1,v.2.2.2.2.1,v.2.2.2.2.2.1,v.2.2.2.2.2.2)))
theorem q3kg C v:q411 (regO (qct f9) 8) false [(2,.any),(3,(.box [.val Riii])),(4,.any),(7,.any),(8,(.own Ri)),(95,.any)] q3k8 q3kf q3ke C v:=rgI (by kernel_rfl)
def q3kh (C:q3je) (v:q3kd):Dt q3jv:=(Dt.ret v.2.1)
theorem q3ki C v:q411 (regO (qct f9) 9) false [(6,.any)] q3ke q3kh q3jw C v:=rgI (by kernel_rfl)
abbrev q3kj:Type:=Bool×Int×List Diii×Int×Int×List Diii
def q3kk (v:q3kj):St:=⟨[(3,.ptr 0 0),(4,.ptr 1 0),(7,.bool v.1),(13,.ptr 2 0),(14,i6 v.2.1)],[.cells [.fz Riii v.2.2.1],.cells [i6 v.2.2.2.1,i6 v.2.2.2.2.1],.cells [.rs 3],.rows Riii v.2.2.2.2.2]⟩
def q3kl (C:q3je) (v:q3kd):Dt q3kj:=(Dt.ite (inB v.1 (List.length v.2.2.2.2.2.2)) (Dt.bnd (C.2.2.2.2.2.2.2.1 ((v.2.2.2.1,()),((elt zi v.2.2.2.2.2.2 (v.1).toNat).1,()),())) fun r1=>(Dt.ret (v.2.1,r1.2,v.2.2.2.1,v.2.2.2.2.1,v.2.2.2.2.2.1,r1.1))) Dt.fail)
theorem q3km C v:q411 (regO (qct f9) 10) true [(3,(.box [.val Riii])),(4,.any),(7,.any),(13,(.box [.own Riii])),(14,.any)] q3ke q3kl q3kk C v:=rgI (by kernel_rfl)
abbrev q3kn:Type:=Bool×Int×Int×Int×List Diii×Int×Int×List Diii
def q3ko (v:q3kn):St:=⟨[(3,.ptr 0 0),(4,.ptr 1 0),(7,.bool v.1),(13,.ptr 2 0),(14,i6 v.2.1),(15,i6 v.2.2.1),(16,i6 v.2.2.2.1)],[.cells [.fz Riii v.2.2.2.2.1],.cells [i6 v.2.2.2.2.2.1,i6 v.2.2.2.2.2.2.1],.cells [.rs 3],.rows Riii v.2.2.2.2.2.2.2]⟩
def q3kp (C:q3je) (v:q3kj):Dt q3kn:=(Dt.bnd (C.2.2.2.2.1 ((v.2.2.1,()),(v.2.2.2.1,v.2.2.2.2.1,()),())) fun r1=>(Dt.ret (v.1,v.2.1,r1.1,r1.2,v.2.2.1,v.2.2.2.1,v.2.2.2.2.1,v.2.2.2.2.2)))
theorem q3kq C v:q411 (regO (qct f9) 11) false [(3,(.box [.val Riii])),(4,.any),(7,.any),(13,(.box [.own Riii])),(14,.any),(15,.any),(16,.any)] q3kk q3kp q3ko C v:=rgI (by kernel_rfl)
abbrev q3kr:Type:=Bool×Int×Int×Int×Int×Int×List Diii×Int×Int×List Diii
def q3ks (v:q3kr):St:=⟨[(3,.ptr 0 0),(4,.ptr 1 0),(7,.bool v.1),(13,.ptr 2 0),(14,i6 v.2.1),(15,i6 v.2.2.1),(16,i6 v.2.2.2.1),(17,i6 v.2.2.2.2.1),(18,i6 v.2.2.2.2.2.1)],[.cells [.fz Riii v.2.2.2.2.2.2.1],.cells [i6 v.2.2.2.2.2.2.2.1,i6 v.2.2.2.2.2.2.2.2.1],.cells [.rs 3],.rows Riii v.2.2.2.2.2.2.2.2.2]⟩
def q3kt (C:q3je) (v:q3kn):Dt q3kr:=(Dt.bnd (C.2.2.2.2.1 ((v.2.2.2.2.2.2.2,()),(v.2.2.2.2.2.1,v.2.2.2.2.2.2.1,()),())) fun r1=>(Dt.ret (v.1,v.2.1,v.2.2.1,v.2.2.2.1,r1.1,r1.2,v.2.2.2.2.1,v.2.2.2.2.2.1,v.2.2.2.2.2.2.1,v.2.2.2.2.2.2.2)))
theorem q3ku C v:q411 (regO (qct f9) 12) false [(3,(.box [.val Riii])),(4,.any),(7,.any),(13,(.box [.own Riii])),(14,.any),(15,.any),(16,.any),(17,.any),(18,.any)] q3ko q3kt q3ks C v:=rgI (by kernel_rfl)
abbrev q3kv:Type:=Bool×Int×Int×Int×Int×Int×Int×Int×Int×List Diii×Int×Int
def q3kw (v:q3kv):St:=⟨[(4,.ptr 0 0),(7,.bool v.1),(13,.ptr 1 0),(14,i6 v.2.1),(15,i6 v.2.2.1),(16,i6 v.2.2.2.1),(17,i6 v.2.2.2.2.1),(18,i6 v.2.2.2.2.2.1),(19,.ptr 3 0),(20,i6 v.2.2.2.2.2.2.1)],[.cells [i6 v.2.2.2.2.2.2.2.1,i6 v.2.2.2.2.2.2.2.2.1],.cells [.rs 2],.rows Riii v.2.2.2.2.2.2.2.2.2.1,.cells [i6 v.2.2.2.2.2.2.2.2.2.2.1,i6 v.2.2.2.2.2.2.2.2.2.2.2]]⟩
def q3kx (C:q3je) (v:q3kr):Dt q3kv:=(Dt.bnd (C.2.2.2.1 ((v.2.2.2.2.2.2.1,()),(v.2.2.2.2.2.2.2.1,v.2.2.2.2.2.2.2.2.1,()),())) fun r1=>(Dt.ret (v.1,v.2.1,v.2.2.1,v.2.2.2.1,v.2.2.2.2.1,v.2.2.2.2.2.1,r1.2.2,v.2.2.2.2.2.2.2.1,v.2.2.2.2.2.2.2.2.1,v.2.2.2.2.2.2.2.2.2,r1.1,r1.2.1)))
theorem q3ky C v:q411 (regO (qct f9) 13) false [(4,.any),(7,.any),(13,(.box [.own Riii])),(14,.any),(15,.any),(16,.any),(17,.any),(18,.any),(19,.any),(20,.any)] q3ks q3kx q3kw C v:=rgI (by kernel_rfl)
abbrev q3kz:Type:=Bool×Int×Int×Int×Int×Int×Int×Int×Int×Int×Int×Int
def q3l0 (v:q3kz):St:=⟨[(7,.bool v.1),(14,i6 v.2.1),(15,i6 v.2.2.1),(16,i6 v.2.2.2.1),(17,i6 v.2.2.2.2.1),(18,i6 v.2.2.2.2.2.1),(19,.ptr 0 0),(20,i6 v.2.2.2.2.2.2.1),(21,.ptr 1 0),(22,i6 v.2.2.2.2.2.2.2.1)],[.cells [i6 v.2.2.2.2.2.2.2.2.1,i6 v.2.2.2.2.2.2.2.2.2.1],.cells [i6 v.2.2.2.2.2.2.2.2.2.2.1,i6 v.2.2.2.2.2.2.2.2.2.2.2]]⟩
def q3l1 (C:q3je) (v:q3kv):Dt q3kz:=(Dt.bnd (C.2.2.2.1 ((v.2.2.2.2.2.2.2.2.2.1,()),(v.2.2.2.2.2.2.2.1,v.2.2.2.2.2.2.2.2.1,()),())) fun r1=>(Dt.ret (v.1,v.2.1,v.2.2.1,v.2.2.2.1,v.2.2.2.2.1,v.2.2.2.2.2.1,v.2.2.2.2.2.2.1,r1.2.2,v.2.2.2.2.2.2.2.2.2.2.1,v.2.2.2.2.2.2.2.2.2.2.2,r1.1,r1.2.1)))
theorem q3l2 C v:q411 (regO (qct f9) 14) false (an [7,14,15,16,17,18,19,20,21,22]) q3kw q3l1 q3l0 C v:=rgI (by kernel_rfl)
def q3l3 (C:q3je) (v:q3kz):Dt q3jv:=(Dt.ite v.1 (Dt.ite (v.2.1 == (0:Int)) (Dt.ite (v.2.2.2.1 == (0:Int)) (Dt.ite (v.2.2.2.2.2.1 == (0:Int)) (Dt.ite (v.2.2.1 == v.2.2.2.2.1) (Dt.ite ((v.2.2.2.2.2.2.2.2.1 == v.2.2.2.2.2.2.2.2.2.2.1)&&((v.2.2.2.2.2.2.2.2.2.1 == v.2.2.2.2.2.2.2.2.2.2.2)&&true)) (Dt.ret (v.2.2.2.2.2.2.1 == v.2.2.2.2.2.2.2.1)) (Dt.ret false)) (Dt.ret false)) (Dt.ret false)) (Dt.ret false)) (Dt.ret false)) (Dt.ret false))
theorem q3l4 C v:q411 (regO (qct f9) 15) false [(6,.any)] q3l0 q3l3 q3jw C v:=rgI (by kernel_rfl)
def q3l5 (d:Nat) (x:q3ja):Option q3jb :=
 (q3jl (q3jf d) (x.1.1,x.2.1.1,x.2.1.2.1,x.2.2.1.1)).eval fun y0 =>
 (q3jp (q3jf d) y0).eval fun y1 =>
 (q3jt (q3jf d) y1).eval fun y2 =>
 bif y2.2.2.1 then ((q3jx (q3jf d) y2).eval fun y3 =>
 some y3) else ((q3k1 (q3jf d) y2).eval fun y4 =>
 (q3k5 (q3jf d) y4).eval fun y5 =>
 (q3k9 (q3jf d) y5).eval fun y6 =>
 bif y6.2.2.1 then ((q3kb (q3jf d) y6).eval fun y7 =>
 some y7) else ((q3kf (q3jf d) y6).eval fun y8 =>
 bif y8.2.2.1 then ((q3kh (q3jf d) y8).eval fun y9 =>
 some y9) else ((q3kl (q3jf d) y8).eval fun y10 =>
 (q3kp (q3jf d) y10).eval fun y11 =>
 (q3kt (q3jf d) y11).eval fun y12 =>
 (q3kx (q3jf d) y12).eval fun y13 =>
 (q3l1 (q3jf d) y13).eval fun y14 =>
 (q3l3 (q3jf d) y14).eval fun y15 =>
 some y15)))
theorem q3l6 (d:Nat):COK prog (q3jd (q3l5 d)):=by
 have hm:prog.follows .mixedOrders=true:=mixed
 have hT:=tys
 have hC0:OrcOK prog (orc (q3jg (q3jf d))):=qcn (by
  intro S hS
  simp only [q3jg,List.mem_cons,List.not_mem_nil,or_false] at hS
  rcases hS with rfl | rfl | rfl | rfl | rfl | rfl | rfl | rfl
  · exact qwd d
  · exact q38s d
  · exact q2eu d
  · exact q2gc d
  · exact q2ha d
  · exact q3d4 d
  · exact qvv d
  · exact q388 d)
 have hC:OrcOK prog (orc (q3jg (q3jf d))):=hC0
 refine q8c (c:=qct f9) (fn:=f9) hT (by kernel_rfl) (by kernel_rfl) (by decide) fun x r h w0 φ0 Q hend=>?_
 replace h:q3l5 d x=some r:=h
 unfold q3l5 at h
 show Run prog w0 φ0 158 (qct f9) ⟨[(0,.agg [.fz Riii x.1.1]),(1,.agg [.int .i64 x.2.1.1,.int .i64 x.2.1.2.1]),(2,.int .i64 x.2.2.1.1)],[]⟩ Q
 refine q3yo hm hT hC (q3jm (q3jf d) (x.1.1,x.2.1.1,x.2.1.2.1,x.2.2.1.1)) h fun y0 h=>?_
 refine q3yo hm hT hC (q3jq (q3jf d) y0) h fun y1 h=>?_
 refine q7w ?_
 refine q3yo hm hT hC (q3ju (q3jf d) y1) h fun y2 h=>?_
 refine q80 (v:=y2.2.2.1) (by kernel_rfl) h ?_ ?_
 ·
  intro h
  refine q3yo hm hT hC (q3jy (q3jf d) y2) h fun y3 h=>?_
  refine q7v (q7k ?_)
  cases h
  exact (hend _ (by kernel_rfl)).2
 ·
  intro h
  refine q7s (q7i ?_)
  refine q3yo hm hT hC (q3k2 (q3jf d) y2) h fun y4 h=>?_
  refine q3yo hm hT hC (q3k6 (q3jf d) y4) h fun y5 h=>?_
  refine q7w ?_
  refine q3yo hm hT hC (q3ka (q3jf d) y5) h fun y6 h=>?_
  refine q80 (v:=y6.2.2.1) (by kernel_rfl) h ?_ ?_
  ·
   intro h
   refine q3yo hm hT hC (q3kc (q3jf d) y6) h fun y7 h=>?_
   refine q7v (q7k ?_)
   cases h
   exact (hend _ (by kernel_rfl)).2
  ·
   intro h
   refine q7s (q7i (q7w ?_))
   refine q3yo hm hT hC (q3kg (q3jf d) y6) h fun y8 h=>?_
   refine q80 (v:=y8.2.2.1) (by kernel_rfl) h ?_ ?_
   ·
    intro h
    refine q3yo hm hT hC (q3ki (q3jf d) y8) h fun y9 h=>?_
    refine q7v (q7k ?_)
    cases h
    exact (hend _ (by kernel_rfl)).2
   ·
    intro h
    refine q7s (q7i ?_)
    refine q3yo hm hT hC (q3km (q3jf d) y8) h fun y10 h=>?_
    refine q3yo hm hT hC (q3kq (q3jf d) y10) h fun y11 h=>?_
    refine q3yo hm hT hC (q3ku (q3jf d) y11) h fun y12 h=>?_
    refine q3yo hm hT hC (q3ky (q3jf d) y12) h fun y13 h=>?_
    refine q3yo hm hT hC (q3l2 (q3jf d) y13) h fun y14 h=>?_
    refine q3yo hm hT hC (q3l4 (q3jf d) y14) h fun y15 h=>?_
    refine q7v ?_
    cases h
    exact (hend _ (by kernel_rfl)).2
abbrev q3l7:List Pk:=[.row qj5 true,.row Rii true,.row Rii true]
abbrev q3l8:Type:=qj6×Dii×Dii×Unit
abbrev q3l9:Type:=Bool
def q3la (r:q3l9):LV×List Ob:=(.bool r,[])
def q3lb (F:q3l8→Option q3l9):Go.Tx.Spec:=⟨6,q3l7,q3l9,F,q3la⟩
abbrev q3lc:Type:=(q2pz→Option q2q0)×(qmz→Option qn0)×(q38a→Option q38b)×(q2ew→Option q2ex)×(q2ge→Option q2gf)×(q3c0→Option q3c1)×(q3fs→Option q3ft)×(q20p→Option q20q)×(q23d→Option q23e)×(q3bg→Option q3bh)×(q2ot→Option q2ou)×(q2z2→Option q2z3)×Unit
def q3ld (d:Nat):q3lc:=(q2r6 d,qn4 d,q38r d,q2gb d,q2h9 d,q3d3 d,q3gl d,q21w d,q244 d,q3bx d,q2pw d,q303 d,())
def q3le (C:q3lc):List Go.Tx.Spec:=[q2q2 C.1,qn2 C.2.1,q38d C.2.2.1,q2ez C.2.2.2.1,q2gh C.2.2.2.2.1,q3c3 C.2.2.2.2.2.1,q3fv C.2.2.2.2.2.2.1,q20s C.2.2.2.2.2.2.2.1,q23g C.2.2.2.2.2.2.2.2.1,q3bj C.2.2.2.2.2.2.2.2.2.1,q2ow C.2.2.2.2.2.2.2.2.2.2.1,q2z5 C.2.2.2.2.2.2.2.2.2.2.2.1]
abbrev q3lf:Type:=List Diii×Int×Int×Int×Int
def q3lg (v:q3lf):St:=⟨[(0,.agg [.fz Riii v.1]),(1,.agg [i6 v.2.1,i6 v.2.2.1]),(2,.agg [i6 v.2.2.2.1,i6 v.2.2.2.2])],[]⟩
abbrev q3lh:Type:=List Diii×Int×Int×Int×Int
def q3li (v:q3lh):St:=⟨[(3,.ptr 0 0),(4,.ptr 1 0),(5,.ptr 2 0)],[.cells [.fz Riii v.1],.cells [i6 v.2.1,i6 v.2.2.1],.cells [i6 v.2.2.2.1,i6 v.2.2.2.2]]⟩
def q3lj (C:q3lc) (v:q3lf):Dt q3lh:=(Dt.ret (v.1,v.2.1,v.2.2.1,v.2.2.2.1,v.2.2.2.2))
abbrev q412 {V Y:Type}:=@rg q3lc V Y tysT (fun C=>(orc (q3le C))) 241
theorem q3lk C v:q412 (regO (qct f6) 0) false [(3,(.box [.val Riii])),(4,.any),(5,.any)] q3lg q3lj q3li C v:=rgI (by kernel_rfl)
abbrev q3ll:Type:=Bool×List Diii×Int×Int×Int×Int
def q3lm (v:q3ll):St:=⟨[(3,.ptr 0 0),(4,.ptr 1 0),(5,.ptr 2 0),(7,.bool v.1)],[.cells [.fz Riii v.2.1],.cells [i6 v.2.2.1,i6 v.2.2.2.1],.cells [i6 v.2.2.2.2.1,i6 v.2.2.2.2.2]]⟩
def q3ln (C:q3lc) (v:q3lh):Dt q3ll:=(Dt.bnd (C.2.2.2.2.2.1 (())) fun r1=>(Dt.ret (r1,v.1,v.2.1,v.2.2.1,v.2.2.2.1,v.2.2.2.2)))
theorem q3lo C v:q412 (regO (qct f6) 1) false [(3,(.box [.val Riii])),(4,.any),(5,.any),(7,.any)] q3li q3ln q3lm C v:=rgI (by kernel_rfl)
abbrev q3lp:Type:=Bool×Bool×List Diii×Int×Int×Int×Int
def q3lq (v:q3lp):St:=⟨[(3,.ptr 0 0),(4,.ptr 1 0),(5,.ptr 2 0),(7,.bool v.1),(61,.bool v.2.1)],[.cells [.fz Riii v.2.2.1],.cells [i6 v.2.2.2.1,i6 v.2.2.2.2.1],.cells [i6 v.2.2.2.2.2.1,i6 v.2.2.2.2.2.2]]⟩
def q3lr (C:q3lc) (v:q3ll):Dt q3lp:=(Dt.bnd (C.2.2.1 ((v.2.1,()),())) fun r1=>(Dt.ite r1 (Dt.ret (v.1,true,v.2.1,v.2.2.1,v.2.2.2.1,v.2.2.2.2.1,v.2.2.2.2.2)) (Dt.bnd (C.1 ((v.2.1,()),(v.2.2.1,v.2.2.2.1,()),(v.2.2.2.2.1,v.2.2.2.2.2,()),())) fun r2=>(Dt.ite (r2 != (0:Int)) (Dt.ret (v.1,true,v.2.1,v.2.2.1,v.2.2.2.1,v.2.2.2.2.1,v.2.2.2.2.2)) (Dt.ite ((List.length v.2.1:Int) == (0:Int)) (Dt.ret (v.1,true,v.2.1,v.2.2.1,v.2.2.2.1,v.2.2.2.2.1,v.2.2.2.2.2)) (Dt.bnd (C.2.2.2.2.2.2.1 ((v.2.2.1,v.2.2.2.1,()),())) fun r3=>(Dt.ite (r3 != (0:Int)) (Dt.ret (v.1,true,v.2.1,v.2.2.1,v.2.2.2.1,v.2.2.2.2.1,v.2.2.2.2.2)) (Dt.bnd (C.2.2.2.2.2.2.1 ((v.2.2.2.2.1,v.2.2.2.2.2,()),())) fun r4=>(Dt.ite (r4 != (0:Int)) (Dt.ret (v.1,true,v.2.1,v.2.2.1,v.2.2.2.1,v.2.2.2.2.1,v.2.2.2.2.2)) (Dt.ret (v.1,(!v.1),v.2.1,v.2.2.1,v.2.2.2.1,v.2.2.2.2.1,v.2.2.2.2.2)))))))))))
theorem q3ls C v:q412 (regO (qct f6) 2) false [(3,(.box [.val Riii])),(4,.any),(5,.any),(7,.any),(61,.any)] q3lm q3lr q3lq C v:=rgI (by kernel_rfl)
abbrev q3lt:Type:=Bool
def q3lu (v:q3lt):St:=⟨[(6,.bool v)],[]⟩
def q3lv (C:q3lc) (v:q3lp):Dt q3lt:=(Dt.ret v.1)
theorem q3lw C v:q412 (regO (qct f6) 3) false [(6,.any)] q3lq q3lv q3lu C v:=rgI (by kernel_rfl)
abbrev q3lx:Type:=Bool×Int×List Diii×Int×Int×Int×Int×Int×Int
def q3ly (v:q3lx):St:=⟨[(3,.ptr 0 0),(4,.ptr 1 0),(5,.ptr 2 0),(7,.bool v.1),(8,.ptr 3 0),(9,i6 v.2.1)],[.cells [.fz Riii v.2.2.1],.cells [i6 v.2.2.2.1,i6 v.2.2.2.2.1],.cells [i6 v.2.2.2.2.2.1,i6 v.2.2.2.2.2.2.1],.cells [i6 v.2.2.2.2.2.2.2.1,i6 v.2.2.2.2.2.2.2.2]]⟩
def q3lz (C:q3lc) (v:q3lp):Dt q3lx:=(Dt.bnd (C.2.2.2.2.2.2.2.1 ((v.2.2.2.1,v.2.2.2.2.1,()),(v.2.2.2.2.2.1,v.2.2.2.2.2.2,()),())) fun r1=>(Dt.ret (v.1,r1.2.2,v.2.2.1,v.2.2.2.1,v.2.2.2.2.1,v.2.2.2.2.2.1,v.2.2.2.2.2.2,r1.1,r1.2.1)))
theorem q3m0 C v:q412 (regO (qct f6) 4) false [(3,(.box [.val Riii])),(4,.any),(5,.any),(7,.any),(8,.any),(9,.any)] q3lq q3lz q3ly C v:=rgI (by kernel_rfl)
abbrev q3m1:Type:=Bool×Int×Int×List Diii×Int×Int×Int×Int×Int×Int
def q3m2 (v:q3m1):St:=⟨[(3,.ptr 0 0),(4,.ptr 1 0),(5,.ptr 2 0),(7,.bool v.1),(9,i6 v.2.1),(10,.ptr 3 0),(11,i6 v.2.2.1)],[.cells [.fz Riii v.2.2.2.1],.cells [i6 v.2.2.2.2.1,i6 v.2.2.2.2.2.1],.cells [i6 v.2.2.2.2.2.2.1,i6 v.2.2.2.2.2.2.2.1],.cells [i6 v.2.2.2.2.2.2.2.2.1,i6 v.2.2.2.2.2.2.2.2.2]]⟩
def q3m3 (C:q3lc) (v:q3lx):Dt q3m1:=(Dt.bnd (C.2.2.2.2.2.2.2.2.1 ((v.2.2.2.2.2.2.2.1,v.2.2.2.2.2.2.2.2,()),((1:Int),(2:Int),()),())) fun r1=>(Dt.ret (v.1,v.2.1,r1.2.2,v.2.2.1,v.2.2.2.1,v.2.2.2.2.1,v.2.2.2.2.2.1,v.2.2.2.2.2.2.1,r1.1,r1.2.1)))
theorem q3m4 C v:q412 (regO (qct f6) 5) false [(3,(.box [.val Riii])),(4,.any),(5,.any),(7,.any),(9,.any),(10,.any),(11,.any)] q3ly q3m3 q3m2 C v:=rgI (by kernel_rfl)
abbrev q3m5:Type:=Bool×Bool×List Diii×Int×Int×Int×Int×Int×Int
def q3m6 (v:q3m5):St:=⟨[(3,.ptr 0 0),(4,.ptr 1 0),(5,.ptr 2 0),(7,.bool v.1),(10,.ptr 3 0),(80,.bool v.2.1)],[.cells [.fz Riii v.2.2.1],.cells [i6 v.2.2.2.1,i6 v.2.2.2.2.1],.cells [i6 v.2.2.2.2.2.1,i6 v.2.2.2.2.2.2.1],.cells [i6 v.2.2.2.2.2.2.2.1,i6 v.2.2.2.2.2.2.2.2]]⟩
def q3m7 (C:q3lc) (v:q3m1):Dt q3m5:=(Dt.ite (v.2.1 != (0:Int)) (Dt.ret (v.1,true,v.2.2.2.1,v.2.2.2.2.1,v.2.2.2.2.2.1,v.2.2.2.2.2.2.1,v.2.2.2.2.2.2.2.1,v.2.2.2.2.2.2.2.2.1,v.2.2.2.2.2.2.2.2.2)) (Dt.ret (v.1,(v.2.2.1 != (0:Int)),v.2.2.2.1,v.2.2.2.2.1,v.2.2.2.2.2.1,v.2.2.2.2.2.2.1,v.2.2.2.2.2.2.2.1,v.2.2.2.2.2.2.2.2.1,v.2.2.2.2.2.2.2.2.2)))
theorem q3m8 C v:q412 (regO (qct f6) 6) false [(3,(.box [.val Riii])),(4,.any),(5,.any),(7,.any),(10,.any),(80,.any)] q3m2 q3m7 q3m6 C v:=rgI (by kernel_rfl)
def q3m9 (C:q3lc) (v:q3m5):Dt q3lt:=(Dt.ret v.1)
theorem q3ma C v:q412 (regO (qct f6) 7) false [(6,.any)] q3m6 q3m9 q3lu C v:=rgI (by kernel_rfl)
abbrev q3mb:Type:=Bool×Int×List Diii×Int×Int×Int×Int×Int×Int×Int×Int
def q3mc (v:q3mb):St:=⟨[(3,.ptr 0 0),(4,.ptr 1 0),(5,.ptr 2 0),(7,.bool v.1),(10,.ptr 3 0),(12,.ptr 4 0),(13,i6 v.2.1)],[.cells [.fz Riii v.2.2.1],.cells [i6 v.2.2.2.1,i6 v.2.2.2.2.1],.cells [i6 v.2.2.2.2.2.1,i6 v.2.2.2.2.2.2.1],.cells [i6 v.2.2.2.2.2.2.2.1,i6 v.2.2.2.2.2.2.2.2.1],.cells [i6 v.2.2.2.2.2.2.2.2.2.1,i6 v.2.2.2.2.2.2.2.2.2.2]]⟩
def q3md (C:q3lc) (v:q3m5):Dt q3mb:=(Dt.bnd (C.2.2.2.1 ((v.2.2.1,()),(v.2.2.2.1,v.2.2.2.2.1,()),())) fun r1=>(Dt.ret (v.1,r1.2.2,v.2.2.1,v.2.2.2.1,v.2.2.2.2.1,v.2.2.2.2.2.1,v.2.2.2.2.2.2.1,v.2.2.2.2.2.2.2.1,v.2.2.2.2.2.2.2.2,r1.1,r1.2.1)))
theorem q3me C v:q412 (regO (qct f6) 8) false [(3,(.box [.val Riii])),(4,.any),(5,.any),(7,.any),(10,.any),(12,.any),(13,.any)] q3m6 q3md q3mc C v:=rgI (by kernel_rfl)
abbrev q3mf:Type:=Bool×Int×Int×List Diii×Int×Int×Int×Int×Int×Int×Int×Int×Int×Int
def q3mg (v:q3mf):St:=⟨[(3,.ptr 0 0),(4,.ptr 1 0),(5,.ptr 2 0),(7,.bool v.1),(10,.ptr 3 0),(12,.ptr 4 0),(13,i6 v.2.1),(14,.ptr 5 0),(15,i6 v.2.2.1)],[.cells [.fz Riii v.2.2.2.1],.cells [i6 v.2.2.2.2.1,i6 v.2.2.2.2.2.1],.cells [i6 v.2.2.2.2.2.2.1,i6 v.2.2.2.2.2.2.2.1],.cells [i6 v.2.2.2.2.2.2.2.2.1,i6 v.2.2.2.2.2.2.2.2.2.1],.cells [i6 v.2.2.2.2.2.2.2.2.2.2.1,i6 v.2.2.2.2.2.2.2.2.2.2.2.1],.cells [i6 v.2.2.2.2.2.2.2.2.2.2.2.2.1,i6 v.2.2.2.2.2.2.2.2.2.2.2.2.2]]⟩
def q3mh (C:q3lc) (v:q3mb):Dt q3mf:=(Dt.bnd (C.2.2.2.1 ((v.2.2.1,()),(v.2.2.2.2.2.1,v.2.2.2.2.2.2.1,()),())) fun r1=>(Dt.ret (v.1,v.2.1,r1.2.2,v.2.2.1,v.2.2.2.1,v.2.2.2.2.1,v.2.2.2.2.2.1,v.2.2.2.2.2.2.1,v.2.2.2.2.2.2.2.1,v.2.2.2.2.2.2.2.2.1,v.2.2.2.2.2.2.2.2.2.1,v.2.2.2.2.2.2.2.2.2.2,r1.1,r1.2.1)))
theorem q3mi C v:q412 (regO (qct f6) 9) false [(3,(.box [.val Riii])),(4,.any),(5,.any),(7,.any),(10,.any),(12,.any),(13,.any),(14,.any),(15,.any)] q3mc q3mh q3mg C v:=rgI (by kernel_rfl)
abbrev q3mj:Type:=Bool×Int×Int×Int×List Diii×Int×Int×Int×Int×Int×Int×Int×Int×Int×Int×Int×Int
def q3mk (v:q3mj):St:=⟨[(3,.ptr 0 0),(4,.ptr 1 0),(5,.ptr 2 0),(7,.bool v.1),(10,.ptr 3 0),(12,.ptr 4 0),(13,i6 v.2.1),(14,.ptr 5 0),(15,i6 v.2.2.1),(16,.ptr 6 0),(17,i6 v.2.2.2.1)],[.cells [.fz Riii v.2.2.2.2.1],.cells [i6 v.2.2.2.2.2.1,i6 v.2.2.2.2.2.2.1],.cells [i6 v.2.2.2.2.2.2.2.1,i6 v.2.2.2.2.2.2.2.2.1],.cells [i6 v.2.2.2.2.2.2.2.2.2.1,i6 v.2.2.2.2.2.2.2.2.2.2.1],.cells [i6 v.2.2.2.2.2.2.2.2.2.2.2.1,i6 v.2.2.2.2.2.2.2.2.2.2.2.2.1],.cells [i6 v.2.2.2.2.2.2.2.2.2.2.2.2.2.1,i6 v.2.2.2.2.2.2.2.2.2.2.2.2.2.2.1],.cells [i6 v.2.2.2.2.2.2.2.2.2.2.2.2.2.2.2.1,i6 v.2.2.2.2.2.2.2.2.2.2.2.2.2.2.2.2]]⟩
def q3ml (C:q3lc) (v:q3mf):Dt q3mj:=(Dt.bnd (C.2.2.2.1 ((v.2.2.2.1,()),(v.2.2.2.2.2.2.2.2.1,v.2.2.2.2.2.2.2.2.2.1,()),())) fun r1=>(Dt.ret (v.1,v.2.1,v.2.2.1,r1.2.2,v.2.2.2.1,v.2.2.2.2.1,v.2.2.2.2.2.1,v.2.2.2.2.2.2.1,v.2.2.2.2.2.2.2.1,v.2.2.2.2.2.2.2.2.1,v.2.2.2.2.2.2.2.2.2.1,v.2.2.2.2.2.2.2.2.2.2.1,v.2.2.2.2.2.2.2.2.2.2.2.1,v.2.2.2.2.2.2.2.2.2.2.2.2.1,v.2.2.2.2.2.2.2.2.2.2.2.2.2,r1.1,r1.2.1)))
theorem q3mm C v:q412 (regO (qct f6) 10) false [(3,(.box [.val Riii])),(4,.any),(5,.any),(7,.any),(10,.any),(12,.any),(13,.any),(14,.any),(15,.any),(16,.any),(17,.any)] q3mg q3ml q3mk C v:=rgI (by kernel_rfl)
abbrev q3mn:Type:=Bool×Bool×List Diii×Int×Int×Int×Int×Int×Int×Int×Int×Int×Int×Int×Int
def q3mo (v:q3mn):St:=⟨[(3,.ptr 0 0),(4,.ptr 1 0),(5,.ptr 2 0),(7,.bool v.1),(10,.ptr 3 0),(12,.ptr 4 0),(14,.ptr 5 0),(16,.ptr 6 0),(139,.bool v.2.1)],[.cells [.fz Riii v.2.2.1],.cells [i6 v.2.2.2.1,i6 v.2.2.2.2.1],.cells [i6 v.2.2.2.2.2.1,i6 v.2.2.2.2.2.2.1],.cells [i6 v.2.2.2.2.2.2.2.1,i6 v.2.2.2.2.2.2.2.2.1],.cells [i6 v.2.2.2.2.2.2.2.2.2.1,i6 v.2.2.2.2.2.2.2.2.2.2.1],.cells [i6 v.2.2.2.2.2.2.2.2.2.2.2.1,i6 v.2.2.2.2.2.2.2.2.2.2.2.2.1],.cells [i6 v.2.2.2.2.2.2.2.2.2.2.2.2.2.1,i6 v.2.2.2.2.2.2.2.2.2.2.2.2.2.2]]⟩
def q3mp (C:q3lc) (v:q3mj):Dt q3mn:=(Dt.ite (v.2.1 != (0:Int)) (Dt.ret (v.1,true,v.2.2.2.2.1,v.2.2.2.2.2.1,v.2.2.2.2.2.2.1,v.2.2.2.2.2.2.2.1,v.2.2.2.2.2.2.2.2.1,v.2.2.2.2.2.2.2.2.2.1,v.2.2.2.2.2.2.2.2.2.2.1,v.2.2.2.2.2.2.2.2.2.2.2.1,v.2.2.2.2.2.2.2.2.2.2.2.2.1,v.2.2.2.2.2.2.2.2.2.2.2.2.2.1,v.2.2.2.2.2.2.2.2.2.2.2.2.2.2.1,v.2.2.2.2.2.2.2.2.2.2.2.2.2.2.2.1,v.2.2.2.2.2.2.2.2.2.2.2.2.2.2.2.2)) (Dt.ite (v.2.2.1 != (0:Int)) (Dt.ret (v.1,true,v.2.2.2.2.1,v.2.2.2.2.2.1,v.2.2.2.2.2.2.1,v.2.2.2.2.2.2.2.1,v.2.2.2.2.2.2.2.2.1,v.2.2.2.2.2.2.2.2.2.1,v.2.2.2.2.2.2.2.2.2.2.1,v.2.2.2.2.2.2.2.2.2.2.2.1,v.2.2.2.2.2.2.2.2.2.2.2.2.1,v.2.2.2.2.2.2.2.2.2.2.2.2.2.1,v.2.2.2.2.2.2.2.2.2.2.2.2.2.2.1,v.2.2.2.2.2.2.2.2.2.2.2.2.2.2.2.1,v.2.2.2.2.2.2.2.2.2.2.2.2.2.2.2.2)) (Dt.ite (v.2.2.2.1 != (0:Int)) (Dt.ret (v.1,true,v.2.2.2.2.1,v.2.2.2.2.2.1,v.2.2.2.2.2.2.1,v.2.2.2.2.2.2.2.1,v.2.2.2.2.2.2.2.2.1,v.2.2.2.2.2.2.2.2.2.1,v.2.2.2.2.2.2.2.2.2.2.1,v.2.2.2.2.2.2.2.2.2.2.2.1,v.2.2.2.2.2.2.2.2.2.2.2.2.1,v.2.2.2.2.2.2.2.2.2.2.2.2.2.1,v.2.2.2.2.2.2.2.2.2.2.2.2.2.2.1,v.2.2.2.2.2.2.2.2.2.2.2.2.2.2.2.1,v.2.2.2.2.2.2.2.2.2.2.2.2.2.2.2.2)) (Dt.bnd (C.2.1 ((v.2.2.2.2.2.2.2.2.2.2.2.1,v.2.2.2.2.2.2.2.2.2.2.2.2.1,()),())) fun r1=>(Dt.ite (r1 != (0:Int)) (Dt.ret (v.1,true,v.2.2.2.2.1,v.2.2.2.2.2.1,v.2.2.2.2.2.2.1,v.2.2.2.2.2.2.2.1,v.2.2.2.2.2.2.2.2.1,v.2.2.2.2.2.2.2.2.2.1,v.2.2.2.2.2.2.2.2.2.2.1,v.2.2.2.2.2.2.2.2.2.2.2.1,v.2.2.2.2.2.2.2.2.2.2.2.2.1,v.2.2.2.2.2.2.2.2.2.2.2.2.2.1,v.2.2.2.2.2.2.2.2.2.2.2.2.2.2.1,v.2.2.2.2.2.2.2.2.2.2.2.2.2.2.2.1,v.2.2.2.2.2.2.2.2.2.2.2.2.2.2.2.2)) (Dt.bnd (C.2.1 ((v.2.2.2.2.2.2.2.2.2.2.2.2.2.1,v.2.2.2.2.2.2.2.2.2.2.2.2.2.2.1,()),())) fun r2=>(Dt.ite (r2 != (0:Int)) (Dt.ret (v.1,true,v.2.2.2.2.1,v.2.2.2.2.2.1,v.2.2.2.2.2.2.1,v.2.2.2.2.2.2.2.1,v.2.2.2.2.2.2.2.2.1,v.2.2.2.2.2.2.2.2.2.1,v.2.2.2.2.2.2.2.2.2.2.1,v.2.2.2.2.2.2.2.2.2.2.2.1,v.2.2.2.2.2.2.2.2.2.2.2.2.1,v.2.2.2.2.2.2.2.2.2.2.2.2.2.1,v.2.2.2.2.2.2.2.2.2.2.2.2.2.2.1,v.2.2.2.2.2.2.2.2.2.2.2.2.2.2.2.1,v.2.2.2.2.2.2.2.2.2.2.2.2.2.2.2.2)) (Dt.bnd (C.2.1 ((v.2.2.2.2.2.2.2.2.2.2.2.2.2.2.2.1,v.2.2.2.2.2.2.2.2.2.2.2.2.2.2.2.2,()),())) fun r3=>(Dt.ite (r3 != (0:Int)) (Dt.ret (v.1,true,v.2.2.2.2.1,v.2.2.2.2.2.1,v.2.2.2.2.2.2.1,v.2.2.2.2.2.2.2.1,v.2.2.2.2.2.2.2.2.1,v.2.2.2.2.2.2.2.2.2.1,v.2.2.2.2.2.2.2.2.2.2.1,v.2.2.2.2.2.2.2.2.2.2.2.1,v.2.2.2.2.2.2.2.2.2.2.2.2.1,v.2.2.2.2.2.2.2.2.2.2.2.2.2.1,v.2.2.2.2.2.2.2.2.2.2.2.2.2.2.1,v.2.2.2.2.2.2.2.2.2.2.2.2.2.2.2.1,v.2.2.2.2.2.2.2.2.2.2.2.2.2.2.2.2)) (Dt.ite (decide (v.2.2.2.2.2.2.2.2.2.2.2.1<(0:Int))) (Dt.ret (v.1,true,v.2.2.2.2.1,v.2.2.2.2.2.1,v.2.2.2.2.2.2.1,v.2.2.2.2.2.2.2.1,v.2.2.2.2.2.2.2.2.1,v.2.2.2.2.2.2.2.2.2.1,v.2.2.2.2.2.2.2.2.2.2.1,v.2.2.2.2.2.2.2.2.2.2.2.1,v.2.2.2.2.2.2.2.2.2.2.2.2.1,v.2.2.2.2.2.2.2.2.2.2.2.2.2.1,v.2.2.2.2.2.2.2.2.2.2.2.2.2.2.1,v.2.2.2.2.2.2.2.2.2.2.2.2.2.2.2.1,v.2.2.2.2.2.2.2.2.2.2.2.2.2.2.2.2)) (Dt.ite (decide (v.2.2.2.2.2.2.2.2.2.2.2.2.2.1<(0:Int))) (Dt.ret (v.1,true,v.2.2.2.2.1,v.2.2.2.2.2.1,v.2.2.2.2.2.2.1,v.2.2.2.2.2.2.2.1,v.2.2.2.2.2.2.2.2.1,v.2.2.2.2.2.2.2.2.2.1,v.2.2.2.2.2.2.2.2.2.2.1,v.2.2.2.2.2.2.2.2.2.2.2.1,v.2.2.2.2.2.2.2.2.2.2.2.2.1,v.2.2.2.2.2.2.2.2.2.2.2.2.2.1,v.2.2.2.2.2.2.2.2.2.2.2.2.2.2.1,v.2.2.2.2.2.2.2.2.2.2.2.2.2.2.2.1,v.2.2.2.2.2.2.2.2.2.2.2.2.2.2.2.2)) (Dt.ret (v.1,(decide (v.2.2.2.2.2.2.2.2.2.2.2.2.2.2.2.1<(0:Int))),v.2.2.2.2.1,v.2.2.2.2.2.1,v.2.2.2.2.2.2.1,v.2.2.2.2.2.2.2.1,v.2.2.2.2.2.2.2.2.1,v.2.2.2.2.2.2.2.2.2.1,v.2.2.2.2.2.2.2.2.2.2.1,v.2.2.2.2.2.2.2.2.2.2.2.1,v.2.2.2.2.2.2.2.2.2.2.2.2.1,v.2.2.2.2.2.2.2.2.2.2.2.2.2.1,v.2.2.2.2.2.2.2.2.2.2.2.2.2.2.1,v.2.2.2.2.2.2.2.2.2.2.2.2.2.2.2.1,v.2.2.2.2.2.2.2.2.2.2.2.2.2.2.2.2)))))))))))))
theorem q3mq C v:q412 (regO (qct f6) 11) false [(3,(.box [.val Riii])),(4,.any),(5,.any),(7,.any),(10,.any),(12,.any),(14,.any),(16,.any),(139,.any)] q3mk q3mp q3mo C v:=rgI (by kernel_rfl)
def q3mr (C:q3lc) (v:q3mn):Dt q3lt:=(Dt.ret false)
theorem q3ms C v:q412 (regO (qct f6) 12) false [(6,.any)] q3mo q3mr q3lu C v:=rgI (by kernel_rfl)
abbrev q3mt:Type:=Bool×Int×List Diii×Int×Int×Int×Int×Int×Int×Int×Int×Int×Int×Int×Int
def q3mu (v:q3mt):St:=⟨[(3,.ptr 0 0),(4,.ptr 1 0),(5,.ptr 2 0),(7,.bool v.1),(10,.ptr 3 0),(12,.ptr 4 0),(16,.ptr 5 0),(18,.ptr 6 0),(19,i6 v.2.1)],[.cells [.fz Riii v.2.2.1],.cells [i6 v.2.2.2.1,i6 v.2.2.2.2.1],.cells [i6 v.2.2.2.2.2.1,i6 v.2.2.2.2.2.2.1],.cells [i6 v.2.2.2.2.2.2.2.1,i6 v.2.2.2.2.2.2.2.2.1],.cells [i6 v.2.2.2.2.2.2.2.2.2.1,i6 v.2.2.2.2.2.2.2.2.2.2.1],.cells [i6 v.2.2.2.2.2.2.2.2.2.2.2.1,i6 v.2.2.2.2.2.2.2.2.2.2.2.2.1],.cells [i6 v.2.2.2.2.2.2.2.2.2.2.2.2.2.1,i6 v.2.2.2.2.2.2.2.2.2.2.2.2.2.2]]⟩
def q3mv (C:q3lc) (v:q3mn):Dt q3mt:=(Dt.bnd (C.2.2.2.2.2.2.2.1 ((v.2.2.2.2.2.2.2.2.2.1,v.2.2.2.2.2.2.2.2.2.2.1,()),(v.2.2.2.2.2.2.2.2.2.2.2.1,v.2.2.2.2.2.2.2.2.2.2.2.2.1,()),())) fun r1=>(Dt.ret (v.1,r1.2.2,v.2.2.1,v.2.2.2.1,v.2.2.2.2.1,v.2.2.2.2.2.1,v.2.2.2.2.2.2.1,v.2.2.2.2.2.2.2.1,v.2.2.2.2.2.2.2.2.1,v.2.2.2.2.2.2.2.2.2.1,v.2.2.2.2.2.2.2.2.2.2.1,v.2.2.2.2.2.2.2.2.2.2.2.2.2.1,v.2.2.2.2.2.2.2.2.2.2.2.2.2.2,r1.1,r1.2.1)))
theorem q3mw C v:q412 (regO (qct f6) 13) false [(3,(.box [.val Riii])),(4,.any),(5,.any),(7,.any),(10,.any),(12,.any),(16,.any),(18,.any),(19,.any)] q3mo q3mv q3mu C v:=rgI (by kernel_rfl)
abbrev q3mx:Type:=Bool×Int×Int×List Diii×Int×Int×Int×Int×Int×Int×Int×Int×Int×Int×Int×Int
def q3my (v:q3mx):St:=⟨[(3,.ptr 0 0),(4,.ptr 1 0),(5,.ptr 2 0),(7,.bool v.1),(10,.ptr 3 0),(12,.ptr 4 0),(18,.ptr 5 0),(19,i6 v.2.1),(20,.ptr 6 0),(21,i6 v.2.2.1)],[.cells [.fz Riii v.2.2.2.1],.cells [i6 v.2.2.2.2.1,i6 v.2.2.2.2.2.1],.cells [i6 v.2.2.2.2.2.2.1,i6 v.2.2.2.2.2.2.2.1],.cells [i6 v.2.2.2.2.2.2.2.2.1,i6 v.2.2.2.2.2.2.2.2.2.1],.cells [i6 v.2.2.2.2.2.2.2.2.2.2.1,i6 v.2.2.2.2.2.2.2.2.2.2.2.1],.cells [i6 v.2.2.2.2.2.2.2.2.2.2.2.2.1,i6 v.2.2.2.2.2.2.2.2.2.2.2.2.2.1],.cells [i6 v.2.2.2.2.2.2.2.2.2.2.2.2.2.2.1,i6 v.2.2.2.2.2.2.2.2.2.2.2.2.2.2.2]]⟩
def q3mz (C:q3lc) (v:q3mt):Dt q3mx:=(Dt.bnd (C.2.2.2.2.2.2.2.2.2.1 (((2:Int),()),())) fun r1=>(Dt.bnd (C.2.2.2.2.2.2.2.2.1 ((v.2.2.2.2.2.2.2.2.2.2.2.1,v.2.2.2.2.2.2.2.2.2.2.2.2.1,()),(r1.1,r1.2,()),())) fun r2=>(Dt.ret (v.1,v.2.1,r2.2.2,v.2.2.1,v.2.2.2.1,v.2.2.2.2.1,v.2.2.2.2.2.1,v.2.2.2.2.2.2.1,v.2.2.2.2.2.2.2.1,v.2.2.2.2.2.2.2.2.1,v.2.2.2.2.2.2.2.2.2.1,v.2.2.2.2.2.2.2.2.2.2.1,v.2.2.2.2.2.2.2.2.2.2.2.2.2.1,v.2.2.2.2.2.2.2.2.2.2.2.2.2.2,r2.1,r2.2.1))))
theorem q3n0 C v:q412 (regO (qct f6) 14) true [(3,(.box [.val Riii])),(4,.any),(5,.any),(7,.any),(10,.any),(12,.any),(18,.any),(19,.any),(20,.any),(21,.any)] q3mu q3mz q3my C v:=rgI (by kernel_rfl)
abbrev q3n1:Type:=Bool×Bool×List Diii×Int×Int×Int×Int×Int×Int×Int×Int
def q3n2 (v:q3n1):St:=⟨[(3,.ptr 0 0),(4,.ptr 1 0),(5,.ptr 2 0),(7,.bool v.1),(10,.ptr 3 0),(12,.ptr 4 0),(163,.bool v.2.1)],[.cells [.fz Riii v.2.2.1],.cells [i6 v.2.2.2.1,i6 v.2.2.2.2.1],.cells [i6 v.2.2.2.2.2.1,i6 v.2.2.2.2.2.2.1],.cells [i6 v.2.2.2.2.2.2.2.1,i6 v.2.2.2.2.2.2.2.2.1],.cells [i6 v.2.2.2.2.2.2.2.2.2.1,i6 v.2.2.2.2.2.2.2.2.2.2]]⟩
def q3n3 (C:q3lc) (v:q3mx):Dt q3n1:=(Dt.ite (v.2.1 == (0:Int)) (Dt.ite (v.2.2.1 == (0:Int)) (Dt.bnd (C.2.2.2.2.2.2.2.2.2.2.1 ((v.2.2.2.2.2.2.2.2.2.2.2.2.2.2.1,v.2.2.2.2.2.2.2.2.2.2.2.2.2.2.2,()),(v.2.2.2.2.2.2.2.2.2.2.2.2.1,v.2.2.2.2.2.2.2.2.2.2.2.2.2.1,()),())) fun r1=>(Dt.ret (v.1,(decide (r1 > (0:Int))),v.2.2.2.1,v.2.2.2.2.1,v.2.2.2.2.2.1,v.2.2.2.2.2.2.1,v.2.2.2.2.2.2.2.1,v.2.2.2.2.2.2.2.2.1,v.2.2.2.2.2.2.2.2.2.1,v.2.2.2.2.2.2.2.2.2.2.1,v.2.2.2.2.2.2.2.2.2.2.2.1))) (Dt.ret (v.1,false,v.2.2.2.1,v.2.2.2.2.1,v.2.2.2.2.2.1,v.2.2.2.2.2.2.1,v.2.2.2.2.2.2.2.1,v.2.2.2.2.2.2.2.2.1,v.2.2.2.2.2.2.2.2.2.1,v.2.2.2.2.2.2.2.2.2.2.1,v.2.2.2.2.2.2.2.2.2.2.2.1))) (Dt.ret (v.1,false,v.2.2.2.1,v.2.2.2.2.1,v.2.2.2.2.2.1,v.2.2.2.2.2.2.1,v.2.2.2.2.2.2.2.1,v.2.2.2.2.2.2.2.2.1,v.2.2.2.2.2.2.2.2.2.1,v.2.2.2.2.2.2.2.2.2.2.1,v.2.2.2.2.2.2.2.2.2.2.2.1)))
theorem q3n4 C v:q412 (regO (qct f6) 15) false [(3,(.box [.val Riii])),(4,.any),(5,.any),(7,.any),(10,.any),(12,.any),(163,.any)] q3my q3n3 q3n2 C v:=rgI (by kernel_rfl)
def q3n5 (C:q3lc) (v:q3n1):Dt q3lt:=(Dt.ret false)
theorem q3n6 C v:q412 (regO (qct f6) 16) false [(6,.any)] q3n2 q3n5 q3lu C v:=rgI (by kernel_rfl)
abbrev q3n7:Type:=Bool×Int×Int×List Diii×Int×Int×Int×Int×Int×Int×Int×Int
def q3n8 (v:q3n7):St:=⟨[(3,.ptr 0 0),(4,.ptr 1 0),(5,.ptr 2 0),(7,.bool v.1),(10,.ptr 3 0),(12,.ptr 4 0),(22,i6 v.2.1),(23,i6 v.2.2.1)],[.cells [.fz Riii v.2.2.2.1],.cells [i6 v.2.2.2.2.1,i6 v.2.2.2.2.2.1],.cells [i6 v.2.2.2.2.2.2.1,i6 v.2.2.2.2.2.2.2.1],.cells [i6 v.2.2.2.2.2.2.2.2.1,i6 v.2.2.2.2.2.2.2.2.2.1],.cells [i6 v.2.2.2.2.2.2.2.2.2.2.1,i6 v.2.2.2.2.2.2.2.2.2.2.2]]⟩
def q3n9 (C:q3lc) (v:q3n1):Dt q3n7:=(Dt.bnd (C.2.2.2.2.1 ((v.2.2.1,()),(v.2.2.2.1,v.2.2.2.2.1,()),())) fun r1=>(Dt.ret (v.1,r1.1,r1.2,v.2.2.1,v.2.2.2.1,v.2.2.2.2.1,v.2.2.2.2.2.1,v.2.2.2.2.2.2.1,v.2.2.2.2.2.2.2.1,v.2.2.2.2.2.2.2.2.1,v.2.2.2.2.2.2.2.2.2.1,v.2.2.2.2.2.2.2.2.2.2)))
theorem q3na C v:q412 (regO (qct f6) 17) false [(3,(.box [.val Riii])),(4,.any),(5,.any),(7,.any),(10,.any),(12,.any),(22,.any),(23,.any)] q3n2 q3n9 q3n8 C v:=rgI (by kernel_rfl)
abbrev q3nb:Type:=Bool×Int×Int×Int×Int×List Diii×Int×Int×Int×Int×Int×Int
def q3nc (v:q3nb):St:=⟨[(3,.ptr 0 0),(4,.ptr 1 0),(5,.ptr 2 0),(7,.bool v.1),(12,.ptr 3 0),(22,i6 v.2.1),(23,i6 v.2.2.1),(24,i6 v.2.2.2.1),(25,i6 v.2.2.2.2.1)],[.cells [.fz Riii v.2.2.2.2.2.1],.cells [i6 v.2.2.2.2.2.2.1,i6 v.2.2.2.2.2.2.2.1],.cells [i6 v.2.2.2.2.2.2.2.2.1,i6 v.2.2.2.2.2.2.2.2.2.1],.cells [i6 v.2.2.2.2.2.2.2.2.2.2.1,i6 v.2.2.2.2.2.2.2.2.2.2.2]]⟩
def q3nd (C:q3lc) (v:q3n7):Dt q3nb:=(Dt.bnd (C.2.2.2.2.1 ((v.2.2.2.1,()),(v.2.2.2.2.2.2.2.2.1,v.2.2.2.2.2.2.2.2.2.1,()),())) fun r1=>(Dt.ret (v.1,v.2.1,v.2.2.1,r1.1,r1.2,v.2.2.2.1,v.2.2.2.2.1,v.2.2.2.2.2.1,v.2.2.2.2.2.2.1,v.2.2.2.2.2.2.2.1,v.2.2.2.2.2.2.2.2.2.2.1,v.2.2.2.2.2.2.2.2.2.2.2)))
theorem q3ne C v:q412 (regO (qct f6) 18) false [(3,(.box [.val Riii])),(4,.any),(5,.any),(7,.any),(12,.any),(22,.any),(23,.any),(24,.any),(25,.any)] q3n8 q3nd q3nc C v:=rgI (by kernel_rfl)
abbrev q3nf:Type:=Bool×Int×Int×Int×Int×Int×Int×List Diii×Int×Int×Int×Int
def q3ng (v:q3nf):St:=⟨[(3,.ptr 0 0),(4,.ptr 1 0),(7,.bool v.1),(12,.ptr 2 0),(22,i6 v.2.1),(23,i6 v.2.2.1),(24,i6 v.2.2.2.1),(25,i6 v.2.2.2.2.1),(26,i6 v.2.2.2.2.2.1),(27,i6 v.2.2.2.2.2.2.1)],[.cells [.fz Riii v.2.2.2.2.2.2.2.1],.cells [i6 v.2.2.2.2.2.2.2.2.1,i6 v.2.2.2.2.2.2.2.2.2.1],.cells [i6 v.2.2.2.2.2.2.2.2.2.2.1,i6 v.2.2.2.2.2.2.2.2.2.2.2]]⟩
def q3nh (C:q3lc) (v:q3nb):Dt q3nf:=(Dt.bnd (C.2.2.2.2.1 ((v.2.2.2.2.2.1,()),(v.2.2.2.2.2.2.2.2.1,v.2.2.2.2.2.2.2.2.2.1,()),())) fun r1=>(Dt.ret (v.1,v.2.1,v.2.2.1,v.2.2.2.1,v.2.2.2.2.1,r1.1,r1.2,v.2.2.2.2.2.1,v.2.2.2.2.2.2.1,v.2.2.2.2.2.2.2.1,v.2.2.2.2.2.2.2.2.2.2.1,v.2.2.2.2.2.2.2.2.2.2.2)))
theorem q3ni C v:q412 (regO (qct f6) 19) false [(3,(.box [.val Riii])),(4,.any),(7,.any),(12,.any),(22,.any),(23,.any),(24,.any),(25,.any),(26,.any),(27,.any)] q3nc q3nh q3ng C v:=rgI (by kernel_rfl)
abbrev q3nj:Type:=Bool×Bool×List Diii×Int×Int×Int×Int
def q3nk (v:q3nj):St:=⟨[(3,.ptr 0 0),(4,.ptr 1 0),(7,.bool v.1),(12,.ptr 2 0),(201,.bool v.2.1)],[.cells [.fz Riii v.2.2.1],.cells [i6 v.2.2.2.1,i6 v.2.2.2.2.1],.cells [i6 v.2.2.2.2.2.1,i6 v.2.2.2.2.2.2]]⟩
def q3nl (C:q3lc) (v:q3nf):Dt q3nj:=(Dt.ite (v.2.2.1 != (0:Int)) (Dt.ret (v.1,true,v.2.2.2.2.2.2.2.1,v.2.2.2.2.2.2.2.2.1,v.2.2.2.2.2.2.2.2.2.1,v.2.2.2.2.2.2.2.2.2.2.1,v.2.2.2.2.2.2.2.2.2.2.2)) (Dt.ite (v.2.2.2.2.1 != (0:Int)) (Dt.ret (v.1,true,v.2.2.2.2.2.2.2.1,v.2.2.2.2.2.2.2.2.1,v.2.2.2.2.2.2.2.2.2.1,v.2.2.2.2.2.2.2.2.2.2.1,v.2.2.2.2.2.2.2.2.2.2.2)) (Dt.ite (v.2.2.2.2.2.2.1 != (0:Int)) (Dt.ret (v.1,true,v.2.2.2.2.2.2.2.1,v.2.2.2.2.2.2.2.2.1,v.2.2.2.2.2.2.2.2.2.1,v.2.2.2.2.2.2.2.2.2.2.1,v.2.2.2.2.2.2.2.2.2.2.2)) (Dt.ite (decide (v.2.1 > v.2.2.2.1)) (Dt.ret (v.1,true,v.2.2.2.2.2.2.2.1,v.2.2.2.2.2.2.2.2.1,v.2.2.2.2.2.2.2.2.2.1,v.2.2.2.2.2.2.2.2.2.2.1,v.2.2.2.2.2.2.2.2.2.2.2)) (Dt.ret (v.1,(decide (v.2.2.2.1 > v.2.2.2.2.2.1)),v.2.2.2.2.2.2.2.1,v.2.2.2.2.2.2.2.2.1,v.2.2.2.2.2.2.2.2.2.1,v.2.2.2.2.2.2.2.2.2.2.1,v.2.2.2.2.2.2.2.2.2.2.2))))))
theorem q3nm C v:q412 (regO (qct f6) 20) false [(3,(.box [.val Riii])),(4,.any),(7,.any),(12,.any),(201,.any)] q3ng q3nl q3nk C v:=rgI (by kernel_rfl)
def q3nn (C:q3lc) (v:q3nj):Dt q3lt:=(Dt.ret false)
theorem q3no C v:q412 (regO (qct f6) 21) false [(6,.any)] q3nk q3nn q3lu C v:=rgI (by kernel_rfl)
abbrev q3np:Type:=Bool×Bool×List Diii×Int×Int×Int×Int
def q3nq (v:q3np):St:=⟨[(3,.ptr 0 0),(4,.ptr 1 0),(7,.bool v.1),(12,.ptr 2 0),(28,.bool v.2.1)],[.cells [.fz Riii v.2.2.1],.cells [i6 v.2.2.2.1,i6 v.2.2.2.2.1],.cells [i6 v.2.2.2.2.2.1,i6 v.2.2.2.2.2.2]]⟩
def q3nr (C:q3lc) (v:q3nj):Dt q3np:=(Dt.ret (v.1,true,v.2.2.1,v.2.2.2.1,v.2.2.2.2.1,v.2.2.2.2.2.1,v.2.2.2.2.2.2))
theorem q3ns C v:q412 (regO (qct f6) 22) false [(3,(.box [.val Riii])),(4,.any),(7,.any),(12,.any),(28,.any)] q3nk q3nr q3nq C v:=rgI (by kernel_rfl)
abbrev q3nt:Type:=Bool×Bool×Int×List Diii×Int×Int×Int×Int
def q3nu (v:q3nt):St:=⟨[(3,.ptr 0 0),(4,.ptr 1 0),(7,.bool v.1),(12,.ptr 2 0),(28,.bool v.2.1),(29,i6 v.2.2.1)],[.cells [.fz Riii v.2.2.2.1],.cells [i6 v.2.2.2.2.1,i6 v.2.2.2.2.2.1],.cells [i6 v.2.2.2.2.2.2.1,i6 v.2.2.2.2.2.2.2]]⟩
def q3nv (C:q3lc) (v:q3np):Dt q3nt:=(Dt.ret (v.1,v.2.1,(1:Int),v.2.2.1,v.2.2.2.1,v.2.2.2.2.1,v.2.2.2.2.2.1,v.2.2.2.2.2.2))
theorem q3nw C v:q412 (regO (qct f6) 23) false [(3,(.box [.val Riii])),(4,.any),(7,.any),(12,.any),(28,.any),(29,.any)] q3nq q3nv q3nu C v:=rgI (by kernel_rfl)
abbrev q3nx:Type:=Bool×Bool×Int×Bool×List Diii×Int×Int×Int×Int
def q3ny (v:q3nx):St:=⟨[(3,.ptr 0 0),(4,.ptr 1 0),(7,.bool v.1),(12,.ptr 2 0),(28,.bool v.2.1),(29,i6 v.2.2.1),(206,.bool v.2.2.2.1)],[.cells [.fz Riii v.2.2.2.2.1],.cells [i6 v.2.2.2.2.2.1,i6 v.2.2.2.2.2.2.1],.cells [i6 v.2.2.2.2.2.2.2.1,i6 v.2.2.2.2.2.2.2.2]]⟩
def q3nz (C:q3lc) (v:q3nt):Dt q3nx:=(Dt.ret (v.1,v.2.1,v.2.2.1,(decide (v.2.2.1<(List.length v.2.2.2.1:Int))),v.2.2.2.1,v.2.2.2.2.1,v.2.2.2.2.2.1,v.2.2.2.2.2.2.1,v.2.2.2.2.2.2.2))
theorem q3o0 C v:q412 (regO (qct f6) 24) false [(3,(.box [.val Riii])),(4,.any),(7,.any),(12,.any),(28,.any),(29,.any),(206,.any)] q3nu q3nz q3ny C v:=rgI (by kernel_rfl)
abbrev q3o1:Type:=Bool×Bool×Int×Int×List Diii×Int×Int×Int×Int×Int×Int
def q3o2 (v:q3o1):St:=⟨[(3,.ptr 0 0),(4,.ptr 1 0),(7,.bool v.1),(12,.ptr 2 0),(28,.bool v.2.1),(29,i6 v.2.2.1),(30,.ptr 3 0),(31,i6 v.2.2.2.1)],[.cells [.fz Riii v.2.2.2.2.1],.cells [i6 v.2.2.2.2.2.1,i6 v.2.2.2.2.2.2.1],.cells [i6 v.2.2.2.2.2.2.2.1,i6 v.2.2.2.2.2.2.2.2.1],.cells [i6 v.2.2.2.2.2.2.2.2.2.1,i6 v.2.2.2.2.2.2.2.2.2.2]]⟩
def q3o3 (C:q3lc) (v:q3nx):Dt q3o1:=(Dt.ite (inB v.2.2.1 (List.length v.2.2.2.2.1)) (Dt.ite (inB (0:Int) (List.length v.2.2.2.2.1)) (Dt.bnd (C.2.2.2.2.2.2.2.2.2.2.2.1 (((elt ziii v.2.2.2.2.1 (v.2.2.1).toNat).1,(elt ziii v.2.2.2.2.1 (v.2.2.1).toNat).2.1,(elt ziii v.2.2.2.2.1 (v.2.2.1).toNat).2.2.1,()),((elt ziii v.2.2.2.2.1 ((0:Int)).toNat).1,(elt ziii v.2.2.2.2.1 ((0:Int)).toNat).2.1,(elt ziii v.2.2.2.2.1 ((0:Int)).toNat).2.2.1,()),(v.2.2.2.2.2.1,v.2.2.2.2.2.2.1,()),())) fun r1=>(Dt.ret (v.1,v.2.1,v.2.2.1,r1.2.2,v.2.2.2.2.1,v.2.2.2.2.2.1,v.2.2.2.2.2.2.1,v.2.2.2.2.2.2.2.1,v.2.2.2.2.2.2.2.2,r1.1,r1.2.1))) Dt.fail) Dt.fail)
theorem q3o4 C v:q412 (regO (qct f6) 26) true [(3,(.box [.val Riii])),(4,.any),(7,.any),(12,.any),(28,.any),(29,.any),(30,.any),(31,.any)] q3ny q3o3 q3o2 C v:=rgI (by kernel_rfl)
def q3o5 (C:q3lc) (v:q3o1):Dt q3nt:=(Dt.ite v.2.1 (Dt.ite (v.2.2.2.1 == (0:Int)) (Dt.ret (v.1,(v.2.2.2.2.2.2.2.2.2.1 == (0:Int)),v.2.2.1,v.2.2.2.2.1,v.2.2.2.2.2.1,v.2.2.2.2.2.2.1,v.2.2.2.2.2.2.2.1,v.2.2.2.2.2.2.2.2.1)) (Dt.ret (v.1,false,v.2.2.1,v.2.2.2.2.1,v.2.2.2.2.2.1,v.2.2.2.2.2.2.1,v.2.2.2.2.2.2.2.1,v.2.2.2.2.2.2.2.2.1))) (Dt.ret (v.1,false,v.2.2.1,v.2.2.2.2.1,v.2.2.2.2.2.1,v.2.2.2.2.2.2.1,v.2.2.2.2.2.2.2.1,v.2.2.2.2.2.2.2.2.1)))
theorem q3o6 C v:q412 (regO (qct f6) 27) false [(3,(.box [.val Riii])),(4,.any),(7,.any),(12,.any),(28,.any),(29,.any)] q3o2 q3o5 q3nu C v:=rgI (by kernel_rfl)
def q3o7 (C:q3lc) (v:q3nt):Dt q3nt:=(Dt.ret (v.1,v.2.1,(IntKind.wrap .i64 (v.2.2.1+(1:Int))),v.2.2.2.1,v.2.2.2.2.1,v.2.2.2.2.2.1,v.2.2.2.2.2.2.1,v.2.2.2.2.2.2.2))
theorem q3o8 C v:q412 (regO (qct f6) 25) false [(3,(.box [.val Riii])),(4,.any),(7,.any),(12,.any),(28,.any),(29,.any)] q3nu q3o7 q3nu C v:=rgI (by kernel_rfl)
def q3o9 (C:q3lc) (v:q3nx):Dt q3lt:=(Dt.ite v.1 (Dt.ret ((v.2.2.2.2.2.2.2.1 == (0:Int)) == v.2.1)) (Dt.ret false))
theorem q3oa C v:q412 (regO (qct f6) 28) false [(6,.any)] q3ny q3o9 q3lu C v:=rgI (by kernel_rfl)
def q3ob (d:Nat) (self1:(Bool×Bool×Int×List Diii×Int×Int×Int×Int)→Option q3l9) (x1:Bool×Bool×Int×List Diii×Int×Int×Int×Int):Option q3l9 :=
 (q3nz (q3ld d) x1).eval fun y24 =>
 bif y24.2.2.2.1 then ((q3o3 (q3ld d) y24).eval fun y26 =>
 (q3o5 (q3ld d) y26).eval fun y27 =>
 (q3o7 (q3ld d) y27).eval fun y25 =>
 self1 y25) else ((q3o9 (q3ld d) y24).eval fun y28 =>
 some y28)
def q3oc (d:Nat) (x:q3l8):Option q3l9 :=
 (q3lj (q3ld d) (x.1.1,x.2.1.1,x.2.1.2.1,x.2.2.1.1,x.2.2.1.2.1)).eval fun y0 =>
 (q3ln (q3ld d) y0).eval fun y1 =>
 (q3lr (q3ld d) y1).eval fun y2 =>
 bif y2.2.1 then ((q3lv (q3ld d) y2).eval fun y3 =>
 some y3) else ((q3lz (q3ld d) y2).eval fun y4 =>
 (q3m3 (q3ld d) y4).eval fun y5 =>
 (q3m7 (q3ld d) y5).eval fun y6 =>
 bif y6.2.1 then ((q3m9 (q3ld d) y6).eval fun y7 =>
 some y7) else ((q3md (q3ld d) y6).eval fun y8 =>
 (q3mh (q3ld d) y8).eval fun y9 =>
 (q3ml (q3ld d) y9).eval fun y10 =>
 (q3mp (q3ld d) y10).eval fun y11 =>
 bif y11.2.1 then ((q3mr (q3ld d) y11).eval fun y12 =>
 some y12) else ((q3mv (q3ld d) y11).eval fun y13 =>
 (q3mz (q3ld d) y13).eval fun y14 =>
 (q3n3 (q3ld d) y14).eval fun y15 =>
 bif y15.2.1 then ((q3n5 (q3ld d) y15).eval fun y16 =>
 some y16) else ((q3n9 (q3ld d) y15).eval fun y17 =>
 (q3nd (q3ld d) y17).eval fun y18 =>
 (q3nh (q3ld d) y18).eval fun y19 =>
 (q3nl (q3ld d) y19).eval fun y20 =>
 bif y20.2.1 then ((q3nn (q3ld d) y20).eval fun y21 =>
 some y21) else ((q3nr (q3ld d) y20).eval fun y22 =>
 (q3nv (q3ld d) y22).eval fun y23 =>
 iter (q3ob d ) d y23)))))
theorem q3od (d:Nat):COK prog (q3lb (q3oc d)):=by
 have hm:prog.follows .mixedOrders=true:=mixed
 have hT:=tys
 have hC0:OrcOK prog (orc (q3le (q3ld d))):=qcn (by
  intro S hS
  simp only [q3le,List.mem_cons,List.not_mem_nil,or_false] at hS
  rcases hS with rfl | rfl | rfl | rfl | rfl | rfl | rfl | rfl | rfl | rfl | rfl | rfl
  · exact q2r7 d
  · exact qn6 d
  · exact q38s d
  · exact q2gc d
  · exact q2ha d
  · exact q3d4 d
  · exact q3gm d
  · exact q21x d
  · exact q245 d
  · exact q3by d
  · exact q2px d
  · exact q304 d)
 have hC:OrcOK prog (orc (q3le (q3ld d))):=hC0
 refine q8c (c:=qct f6) (fn:=f6) hT (by kernel_rfl) (by kernel_rfl) (by decide) fun x r h w0 φ0 Q hend=>?_
 replace h:q3oc d x=some r:=h
 unfold q3oc at h
 show Run prog w0 φ0 241 (qct f6) ⟨[(0,.agg [.fz Riii x.1.1]),(1,.agg [.int .i64 x.2.1.1,.int .i64 x.2.1.2.1]),(2,.agg [.int .i64 x.2.2.1.1,.int .i64 x.2.2.1.2.1])],[]⟩ Q
 refine q3yo hm hT hC (q3lk (q3ld d) (x.1.1,x.2.1.1,x.2.1.2.1,x.2.2.1.1,x.2.2.1.2.1)) h fun y0 h=>?_
 refine q3yo hm hT hC (q3lo (q3ld d) y0) h fun y1 h=>?_
 refine q7w ?_
 refine q3yo hm hT hC (q3ls (q3ld d) y1) h fun y2 h=>?_
 refine q80 (v:=y2.2.1) (by kernel_rfl) h ?_ ?_
 ·
  intro h
  refine q3yo hm hT hC (q3lw (q3ld d) y2) h fun y3 h=>?_
  refine q7v (q7k ?_)
  cases h
  exact (hend _ (by kernel_rfl)).2
 ·
  intro h
  refine q7s (q7i ?_)
  refine q3yo hm hT hC (q3m0 (q3ld d) y2) h fun y4 h=>?_
  refine q3yo hm hT hC (q3m4 (q3ld d) y4) h fun y5 h=>?_
  refine q7w ?_
  refine q3yo hm hT hC (q3m8 (q3ld d) y5) h fun y6 h=>?_
  refine q80 (v:=y6.2.1) (by kernel_rfl) h ?_ ?_
  ·
   intro h
   refine q3yo hm hT hC (q3ma (q3ld d) y6) h fun y7 h=>?_
   refine q7v (q7k ?_)
   cases h
   exact (hend _ (by kernel_rfl)).2
  ·
   intro h
   refine q7s (q7i ?_)
   refine q3yo hm hT hC (q3me (q3ld d) y6) h fun y8 h=>?_
   refine q3yo hm hT hC (q3mi (q3ld d) y8) h fun y9 h=>?_
   refine q3yo hm hT hC (q3mm (q3ld d) y9) h fun y10 h=>?_
   refine q7w ?_
   refine q3yo hm hT hC (q3mq (q3ld d) y10) h fun y11 h=>?_
   refine q80 (v:=y11.2.1) (by kernel_rfl) h ?_ ?_
   ·
    intro h
    refine q3yo hm hT hC (q3ms (q3ld d) y11) h fun y12 h=>?_
    refine q7v (q7k ?_)
    cases h
    exact (hend _ (by kernel_rfl)).2
   ·
    intro h
    refine q7s (q7i ?_)
    refine q3yo hm hT hC (q3mw (q3ld d) y11) h fun y13 h=>?_
    refine q3yo hm hT hC (q3n0 (q3ld d) y13) h fun y14 h=>?_
    refine q7w ?_
    refine q3yo hm hT hC (q3n4 (q3ld d) y14) h fun y15 h=>?_
    refine q80 (v:=y15.2.1) (by kernel_rfl) h ?_ ?_
    ·
     intro h
     refine q3yo hm hT hC (q3n6 (q3ld d) y15) h fun y16 h=>?_
     refine q7v (q7k ?_)
     cases h
     exact (hend _ (by kernel_rfl)).2
    ·
     intro h
     refine q7s (q7i ?_)
     refine q3yo hm hT hC (q3na (q3ld d) y15) h fun y17 h=>?_
     refine q3yo hm hT hC (q3ne (q3ld d) y17) h fun y18 h=>?_
     refine q3yo hm hT hC (q3ni (q3ld d) y18) h fun y19 h=>?_
     refine q7w ?_
     refine q3yo hm hT hC (q3nm (q3ld d) y19) h fun y20 h=>?_
     refine q80 (v:=y20.2.1) (by kernel_rfl) h ?_ ?_
     ·
      intro h
      refine q3yo hm hT hC (q3no (q3ld d) y20) h fun y21 h=>?_
      refine q7v (q7k ?_)
      cases h
      exact (hend _ (by kernel_rfl)).2
     ·
      intro h
      refine q7s (q7i ?_)
      refine q3yo hm hT hC (q3ns (q3ld d) y20) h fun y22 h=>?_
      refine q7w ?_
      refine q3yo hm hT hC (q3nw (q3ld d) y22) h fun y23 h=>?_
      refine q7x ?_
      refine q82 (G:=iter (q3ob d )) (S:=(fun x1=>⟨[(3,.ptr 0 0),(4,.ptr 1 0),(7,.bool x1.1),(12,.ptr 2 0),(28,.bool x1.2.1),(29,i6 x1.2.2.1)],[.cells [.fz Riii x1.2.2.2.1],.cells [i6 x1.2.2.2.2.1,i6 x1.2.2.2.2.2.1],.cells [i6 x1.2.2.2.2.2.2.1,i6 x1.2.2.2.2.2.2.2]]⟩:Bool×Bool×Int×List Diii×Int×Int×Int×Int→St)) (fun _=>rfl) ?_ d _ h
      intro n1 x1 h K1 hn1
      replace h:q3ob d  (iter (q3ob d ) n1) x1=some r:=h
      generalize iter (q3ob d ) n1=self1 at h hn1
      unfold q3ob at h
      refine q7w ?_
      refine q3yo hm hT hC (q3o0 (q3ld d) x1) h fun y24 h=>?_
      refine q80 (v:=y24.2.2.2.1) (by kernel_rfl) h ?_ ?_
      ·
       intro h
       refine q7s (q7i (q7w (q7x ?_)))
       refine q3yo hm hT hC (q3o4 (q3ld d) y24) h fun y26 h=>?_
       refine q81 hm hT hC (q3o6 (q3ld d) y26) h ?_
       intro y27 h
       refine q7l (q7i ?_)
       refine q81 hm hT hC (q3o8 (q3ld d) y27) h ?_
       intro y25 h
       exact hn1 _ h
      ·
       intro h
       refine q7u (q7j (q7j (q7n (q7i ?_))))
       refine q3yo hm hT hC (q3oa (q3ld d) y24) h fun y28 h=>?_
       refine q7v ?_
       cases h
       exact (hend _ (by kernel_rfl)).2
end Go.Proofs.YtpfhgnccpiildaaGreat

namespace Go.Proofs.YtpfhgnccpiildaaGreat
open Go Go.Tx Go.Pel
theorem q3oe (d:Nat) (a b:Int):q10g d ((a,()),(b,()),())=some (cmpZ a b):=by
  simp only [q10g,qz4,qz8,qzc,qzg,qzk,qzo,qzs,qzu,qzy,q100,q104,q106,q10a,q10c,q10e,qyw,qym,qyq,qyu,Dt.eval,bne_self_eq_false,cond_false]
  unfold cmpZ
  by_cases h1:a<b
  · simp only [h1,decide_true,cond_true,if_true]
  · by_cases h2 : b < a
    · simp only [h1,h2,gt_iff_lt,decide_true,decide_false,cond_true,cond_false,if_true,if_false]
    · simp only [h1,h2,gt_iff_lt,decide_false,cond_false,if_false]
theorem q3of (d:Nat) (a b:Int):q13u d ((a,()),(b,()),())=some (cmpZ a b):=by
  simp only [q13u,q12i,q12m,q12q,q12u,q12y,q132,q136,q138,q13c,q13e,q13i,q13k,q13o,q13q,q13s,q12a,q120,q124,q128,Dt.eval,bne_self_eq_false,cond_false]
  unfold cmpZ
  by_cases h1:a<b
  · simp only [h1,decide_true,cond_true,if_true]
  · by_cases h2 : b < a
    · simp only [h1,h2,gt_iff_lt,decide_true,decide_false,cond_true,cond_false,if_true,if_false]
    · simp only [h1,h2,gt_iff_lt,decide_false,cond_false,if_false]
theorem q3og (d:Nat) (a b:Int):q1b0 d ((a,()),(b,()),())=some (cmpZ a b):=by
  simp only [q1b0,q19o,q19s,q19w,q1a0,q1a4,q1a8,q1ac,q1ae,q1ai,q1ak,q1ao,q1aq,q1au,q1aw,q1ay,q19g,q196,q19a,q19e,Dt.eval,bne_self_eq_false,cond_false]
  unfold cmpZ
  by_cases h1:a<b
  · simp only [h1,decide_true,cond_true,if_true]
  · by_cases h2 : b < a
    · simp only [h1,h2,gt_iff_lt,decide_true,decide_false,cond_true,cond_false,if_true,if_false]
    · simp only [h1,h2,gt_iff_lt,decide_false,cond_false,if_false]
theorem q3oh (d:Nat) (a:Int) (h:i64B a=true):q114 d ((a,()),())=some (a.natAbs:Int):=by
  have h:=qiq h
  simp only [q114,q10o,q10s,q10w,q110,q112,Dt.eval]
  by_cases h1:a<0
  · simp only [h1, decide_true, cond_true, IntKind.wrap_u64]
    exact congrArg some (by omega:((0:Int) - a % 18446744073709551616) % 18446744073709551616=(a.natAbs:Int))
  · simp only [h1, decide_false, cond_false, IntKind.wrap_u64]
    exact congrArg some (by omega:(a % 18446744073709551616:Int)=(a.natAbs:Int))
theorem q3oj (d:Nat) (a b:Int) (ha:i64B a=true) (hb:i64B b=true):q11s d ((a,()),(b,()),())=some (!((decide (a<0)) == (decide (b<0))),(((a*b).natAbs / 18446744073709551616:Nat):Int),(((a*b).natAbs % 18446744073709551616:Nat):Int)):=by
  have e1:=q3oh d a ha
  have e2:=q3oh d b hb
  have ha':=qiq ha
  have hb':=qiq hb
  have e3:qmd d (((a.natAbs:Int),()),((b.natAbs:Int),()),())=some (((a.natAbs:Int)*(b.natAbs:Int)) / 18446744073709551616,((a.natAbs:Int)*(b.natAbs:Int)) % 18446744073709551616):=by
    rw [qme _ _ (by unfold qmc u64B;simp only [Bool.and_eq_true,decide_eq_true_eq];omega)]
  simp only [q11s,q11c,q11i,q11m,q11q,Dt.eval,e1,e2,e3]
  rw [Int.natAbs_mul]
  simp
theorem ltZ (a b:Int):cmpZ a b=-1∧a<b∨cmpZ a b=0∧a=b∨cmpZ a b=1∧b<a:=by
  unfold cmpZ
  repeat' split
  all_goals omega
theorem q3ok (d:Nat) (n1 n2:Bool) (P Q:Nat):q14o d ((n1,((P / 18446744073709551616:Nat):Int),((P % 18446744073709551616:Nat):Int),()),(n2,((Q / 18446744073709551616:Nat):Int),((Q % 18446744073709551616:Nat):Int),()),())=some (cmpZ (P:Int) (Q:Int)):=by
  simp only [q14o,q142,q148,q14c,q14g,q14k,q14m,Dt.eval,q3of]
  rcases ltZ ((P / 18446744073709551616:Nat):Int) ((Q / 18446744073709551616:Nat):Int) with ⟨h1,h2⟩ | ⟨h1,h2⟩ | ⟨h1,h2⟩
  · simp only [h1, show ((-1 : Int) != 0) = true from rfl, cond_true]
    rw [qkd (by omega)]
  · simp only [h1, show ((0 : Int) != 0) = false from rfl, cond_false]
    rcases ltZ (P:Int) (Q:Int) with ⟨k1,k2⟩ | ⟨k1,k2⟩ | ⟨k1,k2⟩
    · rw [k1,qkd (by omega)]
    · rw [k1,qkf (by omega)]
    · rw [k1,qke (by omega)]
  · simp only [h1, show ((1 : Int) != 0) = true from rfl, cond_true]
    rw [qke (by omega)]
theorem q3ol (d:Nat) (n1 d1 n2 d2:Int) (h1:i64B n1=true) (h2:i64B d1=true) (h3:i64B n2=true) (h4:i64B d2=true):qye d ((n1,d1,()),(n2,d2,()),())=some (tmax (qcv n1 d1) (qcv n2 d2)):=by
  have e1:qmv d ((n1,d1,()),())=some (qcv n1 d1):=qmw _ _ (by unfold qmu;simp only [h1,h2,Bool.and_self])
  have e2:qmv d ((n2,d2,()),())=some (qcv n2 d2):=qmw _ _ (by unfold qmu;simp only [h3,h4,Bool.and_self])
  simp only [qye,qy2,qy8,qyc,Dt.eval,e1,e2]
def cmpR (n1 d1 n2 d2:Int):Int×Int:=if qcv n1 d1=0∧qcv n2 d2=0 then (cmpQ n1 d1 n2 d2,0) else (0,8)
theorem q3om (d:Nat) (n1 d1 n2 d2:Int) (h1:i64B n1=true) (h2:i64B d1=true) (h3:i64B n2=true) (h4:i64B d2=true):q161 d ((n1,d1,()),(n2,d2,()),())=some (cmpR n1 d1 n2 d2):=by
  unfold cmpR
  have e0:=q3ol d n1 d1 n2 d2 h1 h2 h3 h4
  by_cases hc:qcv n1 d1=0∧qcv n2 d2=0
  · rw [if_pos hc]
    rw [hc.1,hc.2] at e0
    obtain ⟨g1,_,_⟩:=qd2 hc.1
    obtain ⟨g2,_,_⟩:=qd2 hc.2
    have e1:=q3oj d n1 d2 h1 h4
    have e2:=q3oj d n2 d1 h3 h2
    have e3:=q3oe d n1 n2
    simp only [q161,q14w,q152,q156,q15a,q15e,q15i,q15k,q15o,q15s,q15w,q15y,q160,Dt.eval,e0,e1,e2,e3,q3ok,show tmax 0 0=0 from rfl,show ((0:Int) != 0)=false from rfl,cond_false]
    unfold cmpQ
    have p1:0<d1:=by omega
    have p2:0<d2:=by omega
    have s1:(n1<0→n1*d2<0)∧(0≤n1→0≤n1*d2):=⟨fun h=>Int.mul_neg_of_neg_of_pos h p2,fun h=>Int.mul_nonneg h (by omega)⟩
    have s2:(n2<0→n2*d1<0)∧(0≤n2→0≤n2*d1):=⟨fun h=>Int.mul_neg_of_neg_of_pos h p1,fun h=>Int.mul_nonneg h (by omega)⟩
    generalize n1*d2=P at *
    generalize n2*d1=Q at *
    by_cases k1:n1<0<;>by_cases k2:n2<0<;>simp only [k1,k2,decide_true,decide_false,beq_self_eq_true,Bool.not_true,Bool.not_false,cond_true,cond_false,Bool.false_beq,Bool.true_beq]
    · have := s1.1 k1
      have:=s2.1 k2
      rcases ltZ (P.natAbs:Int) (Q.natAbs:Int) with ⟨g1,g2⟩ | ⟨g1,g2⟩ | ⟨g1,g2⟩
      · rw [g1,qke (a:=P) (b:=Q) (by omega)];rfl
      · rw [g1,qkf (a:=P) (b:=Q) (by omega)];rfl
      · rw [g1,qkd (a:=P) (b:=Q) (by omega)];rfl
    · have := s1.1 k1
      have:=s2.2 (by omega)
      rw [qkd (by omega),qkd (by omega)]
    · have := s1.2 (by omega)
      have:=s2.1 k2
      rw [qke (by omega),qke (by omega)]
    · have := s1.2 (by omega)
      have:=s2.2 (by omega)
      rw [show (P.natAbs:Int)=P by omega,show (Q.natAbs:Int)=Q by omega]
  · rw [if_neg hc]
    have e1:tmax (qcv n1 d1) (qcv n2 d2)=8:=by
      unfold tmax
      rcases qd1 n1 d1 with q1 | q1<;>rcases qd1 n2 d2 with q2 | q2
      · exact absurd ⟨q1,q2⟩ hc
      all_goals rw [q1,q2];rfl
    rw [e1] at e0
    simp only [q161,q14w,q152,q156,q15a,q15e,Dt.eval,e0,show ((8:Int) != 0)=true from rfl,cond_true]
theorem q3on (d:Nat) (n1 d1 n2 d2:Int) (h1:i64B n1=true) (h2:i64B d1=true) (h3:i64B n2=true) (h4:i64B d2=true):q16p d ((n1,d1,()),(n2,d2,()),())=some (cmpR n1 d1 n2 d2).1:=by
  have e1:=q3om d n1 d1 n2 d2 h1 h2 h3 h4
  simp only [q16p,q169,q16f,q16j,q16n,Dt.eval,e1]
theorem q3oo (d:Nat) (P:Int):q2oq d ((decide (P<0),((P.natAbs / 18446744073709551616:Nat):Int),((P.natAbs % 18446744073709551616:Nat):Int),()),())=some (cmpZ P 0):=by
  simp only [q2oq,q2o2,q2o8,q2oc,q2og,q2ok,q2om,q2oo,Dt.eval]
  by_cases h0:P=0
  · subst h0;rfl
  · have hne : ¬ (((P.natAbs / 18446744073709551616 : Nat) : Int) = 0 ∧ ((P.natAbs % 18446744073709551616 : Nat) : Int) = 0) := by omega
    have hh:(bif (((P.natAbs / 18446744073709551616:Nat):Int) == 0) then (((P.natAbs % 18446744073709551616:Nat):Int) == 0) else false)=false:=by
      cases h1:(((P.natAbs / 18446744073709551616:Nat):Int) == 0) with
      | false=>rfl
      | true=>rw [cond_true,beq_eq_false_iff_ne];rw [beq_iff_eq] at h1;intro h2;exact hne ⟨h1,h2⟩
    cases h1:(((P.natAbs / 18446744073709551616:Nat):Int) == 0) with
    | false =>
      simp only [cond_false]
      rcases ltZ P 0 with ⟨k1,k2⟩ | ⟨k1,k2⟩ | ⟨k1,k2⟩
      · simp only [k1,k2,decide_true,cond_true]
      · exact absurd k2 h0
      · simp only [k1,show ¬ P<0 by omega,decide_false,cond_false]
    | true =>
      rw [h1,cond_true] at hh
      simp only [cond_true,hh,cond_false]
      rcases ltZ P 0 with ⟨k1,k2⟩ | ⟨k1,k2⟩ | ⟨k1,k2⟩
      · simp only [k1,k2,decide_true,cond_true]
      · exact absurd k2 h0
      · simp only [k1,show ¬ P<0 by omega,decide_false,cond_false]
theorem q3op (d:Nat) (n1 n2:Bool) (P Q:Nat):q1u9 d ((n1,((P / 18446744073709551616:Nat):Int),((P % 18446744073709551616:Nat):Int),()),(n2,((Q / 18446744073709551616:Nat):Int),((Q % 18446744073709551616:Nat):Int),()),())=some (cmpZ (P:Int) (Q:Int)):=by
  simp only [q1u9,q1t9,q1tf,q1tj,q1tn,q1tr,q1tt,q1tx,q1u1,q1u3,q1u5,q1u7,Dt.eval]
  obtain ⟨a,ha⟩:∃ a:Int,((P / 18446744073709551616:Nat):Int)=a:=⟨_,rfl⟩
  obtain ⟨b,hb⟩:∃ a:Int,((P % 18446744073709551616:Nat):Int)=a:=⟨_,rfl⟩
  obtain ⟨c,hc⟩:∃ a:Int,((Q / 18446744073709551616:Nat):Int)=a:=⟨_,rfl⟩
  obtain ⟨e,he⟩:∃ a:Int,((Q % 18446744073709551616:Nat):Int)=a:=⟨_,rfl⟩
  rw [ha,hb,hc,he]
  rcases ltZ a c with ⟨_,k2⟩ | ⟨_,k2⟩ | ⟨_,k2⟩
  · have e1 : (a != c) = true := by simp; omega
    simp only [e1,k2,decide_true,cond_true]
    rw [qkd (by omega)]
  · have e1 : (a != c) = false := by simp; omega
    simp only [e1,cond_false]
    rcases ltZ b e with ⟨_,g2⟩ | ⟨_,g2⟩ | ⟨_,g2⟩
    · have e2 : (b != e) = true := by simp; omega
      simp only [e2,g2,decide_true,cond_true]
      rw [qkd (by omega)]
    · have e2 : (b != e) = false := by simp; omega
      simp only [e2,cond_false]
      rw [qkf (by omega)]
    · have e2 : (b != e) = true := by simp; omega
      simp only [e2,show ¬ b<e by omega,decide_false,cond_true,cond_false]
      rw [qke (by omega)]
  · have e1 : (a != c) = true := by simp; omega
    simp only [e1,show ¬ a<c by omega,decide_false,cond_true,cond_false]
    rw [qke (by omega)]
theorem q3oq (d:Nat) (n1 d1 n2 d2:Int) (h1:i64B n1=true) (h2:i64B d1=true) (h3:i64B n2=true) (h4:i64B d2=true):q2pw d ((n1,d1,()),(n2,d2,()),())=some (cmpQ n1 d1 n2 d2):=by
  have e1:qmm d ((n1,()),(d2,()),())=some (decide (n1*d2<0),(((n1*d2).natAbs / 18446744073709551616:Nat):Int),(((n1*d2).natAbs % 18446744073709551616:Nat):Int)):=qmn _ _ (by unfold qml;simp only [h1,h4,Bool.and_self])
  have e2:qmm d ((n2,()),(d1,()),())=some (decide (n2*d1<0),(((n2*d1).natAbs / 18446744073709551616:Nat):Int),(((n2*d1).natAbs % 18446744073709551616:Nat):Int)):=qmn _ _ (by unfold qml;simp only [h3,h2,Bool.and_self])
  unfold cmpQ
  generalize n1*d2=P at *
  generalize n2*d1=Q at *
  have hs:=@qm0 P Q
  have hn:=@qm1 P Q
  have hp:=@qm2 P Q
  simp only [q2pw,q2oy,q2p4,q2p8,q2pc,q2pg,q2pk,q2pm,q2pq,q2ps,q2pu,Dt.eval,e1,e2,q3oo,q3op]
  by_cases hg:cmpZ P 0=cmpZ Q 0
  · have g1 : (cmpZ P 0 != cmpZ Q 0) = false := by simp [hg]
    simp only [g1,cond_false]
    by_cases h0:cmpZ P 0<0
    · simp only [h0,decide_true,cond_true];rw [hn hg h0]
    · simp only [h0,decide_false,cond_false];rw [hp hg h0]
  · have g1 : (cmpZ P 0 != cmpZ Q 0) = true := by simp [hg]
    simp only [g1,cond_true]
    have:=hs hg
    by_cases h0:cmpZ P 0<cmpZ Q 0
    · rw [if_pos h0] at this;simp only [h0,decide_true,cond_true];rw [this]
    · rw [if_neg h0] at this;simp only [h0,decide_false,cond_false];rw [this]
end Go.Proofs.YtpfhgnccpiildaaGreat

namespace Go.Pel
open Go Go.Tx
abbrev T3:Type:=Int×Int×Int×Unit
abbrev M4:Type:=Int×Int×Int×Int×Unit
theorem q_le {a b c d1 d2 d3:Int} (h1:1≤d1) (h2:1≤d2) (h3:1≤d3) (h:a*d2≤b*d1) (k:b*d3≤c*d2):a*d3≤c*d1:=by
  have e1:a*d3*d2≤c*d1*d2:=by
    have:=Int.mul_le_mul_of_nonneg_right h (show (0:Int)≤d3 by omega)
    have:=Int.mul_le_mul_of_nonneg_right k (show (0:Int)≤d1 by omega)
    rw [Int.mul_right_comm a d3 d2,Int.mul_right_comm c d1 d2]
    have e:b*d1*d3=b*d3*d1:=Int.mul_right_comm b d1 d3
    omega
  exact Int.le_of_mul_le_mul_right e1 (by omega)
theorem q_lt {a b c d1 d2 d3:Int} (h1:1≤d1) (h2:1≤d2) (h3:1≤d3) (h:a*d2<b*d1) (k:b*d3≤c*d2):a*d3<c*d1:=by
  have e1:a*d3*d2<c*d1*d2:=by
    have:=Int.mul_lt_mul_of_pos_right h (show (0:Int)<d3 by omega)
    have:=Int.mul_le_mul_of_nonneg_right k (show (0:Int)≤d1 by omega)
    rw [Int.mul_right_comm a d3 d2,Int.mul_right_comm c d1 d2]
    have e:b*d1*d3=b*d3*d1:=Int.mul_right_comm b d1 d3
    omega
  exact Int.lt_of_mul_lt_mul_right e1 (by omega)
theorem q3or {a b c d1 d2 d3:Int} (h1:1≤d1) (h2:1≤d2) (h3:1≤d3) (h:a*d2≤b*d1) (k:b*d3<c*d2):a*d3<c*d1:=by
  have e1:a*d3*d2<c*d1*d2:=by
    have:=Int.mul_le_mul_of_nonneg_right h (show (0:Int)≤d3 by omega)
    have:=Int.mul_lt_mul_of_pos_right k (show (0:Int)<d1 by omega)
    rw [Int.mul_right_comm a d3 d2,Int.mul_right_comm c d1 d2]
    have e:b*d1*d3=b*d3*d1:=Int.mul_right_comm b d1 d3
    omega
  exact Int.lt_of_mul_lt_mul_right e1 (by omega)
theorem q_eq {a b d1 d2:Int} (h1:qcv a d1=0) (h2:qcv b d2=0) (h:a*d2=b*d1):a=b∧d1=d2:=by
  obtain ⟨p1,_,g1⟩:=qd2 h1
  obtain ⟨p2,_,g2⟩:=qd2 h2
  have hn:a.natAbs*d2.toNat=b.natAbs*d1.toNat:=by
    have:=congrArg Int.natAbs h
    rw [Int.natAbs_mul,Int.natAbs_mul] at this
    rwa [show d2.natAbs=d2.toNat by omega,show d1.natAbs=d1.toNat by omega] at this
  have k1:d1.toNat ∣ d2.toNat:=Nat.Coprime.dvd_of_dvd_mul_left (k:=d1.toNat) (m:=a.natAbs) (n:=d2.toNat) g1 ⟨b.natAbs,by rw [hn,Nat.mul_comm]⟩
  have k2:d2.toNat ∣ d1.toNat:=Nat.Coprime.dvd_of_dvd_mul_left (k:=d2.toNat) (m:=b.natAbs) (n:=d1.toNat) g2 ⟨a.natAbs,by rw [← hn,Nat.mul_comm]⟩
  have e:d1.toNat=d2.toNat:=Nat.dvd_antisymm k1 k2
  have e':d1=d2:=by omega
  subst e'
  exact ⟨Int.eq_of_mul_eq_mul_right (by omega) h,rfl⟩
def okM (x:M4):Prop:=qcv x.1 x.2.1=0
def cmpM (x y:M4):Int:=orZ (cmpQ x.1 x.2.1 y.1 y.2.1) (orZ (cmpZ x.2.2.1 y.2.2.1) (cmpZ x.2.2.2.1 y.2.2.2.1))
def ltM (x y:M4):Bool:=decide (cmpM x y<0)
theorem q3os (x y:M4):ltM x y=true↔x.1*y.2.1<y.1*x.2.1∨(x.1*y.2.1=y.1*x.2.1∧(x.2.2.1<y.2.2.1∨(x.2.2.1=y.2.2.1∧x.2.2.2.1<y.2.2.2.1))):=by
  unfold ltM cmpM cmpQ orZ cmpZ
  rw [decide_eq_true_eq]
  generalize x.1*y.2.1=P
  generalize y.1*x.2.1=Q
  repeat' split
  all_goals omega
theorem q3ot (x y:M4) (h:ltM x y=false):¬ (x.1*y.2.1<y.1*x.2.1∨(x.1*y.2.1=y.1*x.2.1∧(x.2.2.1<y.2.2.1∨(x.2.2.1=y.2.2.1∧x.2.2.2.1<y.2.2.2.1)))):=by
  intro k;rw [(q3os x y).2 k] at h;cases h
theorem q3ou (x:M4):ltM x x=false:=by
  rw [← Bool.not_eq_true,q3os];omega
theorem q3ov {x y:M4} (h:ltM x y=true):ltM y x=false:=by
  rw [q3os] at h
  rw [← Bool.not_eq_true,q3os];omega
theorem q3ow {x y z:M4} (hx:okM x) (hy:okM y) (hz:okM z) (h:ltM x y=true) (k:ltM y z=true):ltM x z=true:=by
  obtain ⟨p1,_,_⟩:=qd2 hx
  obtain ⟨p2,_,_⟩:=qd2 hy
  obtain ⟨p3,_,_⟩:=qd2 hz
  rw [q3os] at h k ⊢
  have a1:=@q_lt x.1 y.1 z.1 x.2.1 y.2.1 z.2.1 p1 p2 p3
  have a2:=@q3or x.1 y.1 z.1 x.2.1 y.2.1 z.2.1 p1 p2 p3
  have a3:=@q_le x.1 y.1 z.1 x.2.1 y.2.1 z.2.1 p1 p2 p3
  have a4:=@q_le z.1 y.1 x.1 z.2.1 y.2.1 x.2.1 p3 p2 p1
  generalize x.1*y.2.1=A at *
  generalize y.1*x.2.1=B at *
  generalize y.1*z.2.1=C at *
  generalize z.1*y.2.1=D at *
  generalize x.1*z.2.1=E at *
  generalize z.1*x.2.1=G at *
  rcases h with h | ⟨h,h'⟩
  · left
    refine a1 h ?_
    rcases k with k | ⟨k,_⟩<;>omega
  · rcases k with k | ⟨k, k'⟩
    · left;exact a2 (by omega) k
    · right
      refine ⟨Int.le_antisymm (a3 (by omega) (by omega)) (a4 (by omega) (by omega)),by omega⟩
theorem q3ox {x y z:M4} (hx:okM x) (hy:okM y) (hz:okM z) (h:ltM x y=false) (k:ltM y z=false):ltM x z=false:=by
  obtain ⟨p1,_,_⟩:=qd2 hx
  obtain ⟨p2,_,_⟩:=qd2 hy
  obtain ⟨p3,_,_⟩:=qd2 hz
  have h:=q3ot _ _ h
  have k:=q3ot _ _ k
  rw [← Bool.not_eq_true,q3os]
  have a1:=@q_lt z.1 y.1 x.1 z.2.1 y.2.1 x.2.1 p3 p2 p1
  have a2:=@q3or z.1 y.1 x.1 z.2.1 y.2.1 x.2.1 p3 p2 p1
  have a3:=@q_le x.1 y.1 z.1 x.2.1 y.2.1 z.2.1 p1 p2 p3
  have a4:=@q_le z.1 y.1 x.1 z.2.1 y.2.1 x.2.1 p3 p2 p1
  generalize x.1*y.2.1=A at *
  generalize y.1*x.2.1=B at *
  generalize y.1*z.2.1=C at *
  generalize z.1*y.2.1=D at *
  generalize x.1*z.2.1=E at *
  generalize z.1*x.2.1=G at *
  have f4:=a4 (by omega) (by omega)
  intro q
  have hE:E=G:=by omega
  have hAB:A=B:=by
    rcases Int.lt_or_eq_of_le (show B≤A by omega) with h5 | h5
    · have:=a2 (by omega) h5;omega
    · omega
  have hCD:C=D:=by
    rcases Int.lt_or_eq_of_le (show D≤C by omega) with h5 | h5
    · have:=a1 h5 (by omega);omega
    · omega
  omega
theorem q3oy {x y:M4} (hx:okM x) (hy:okM y) (h:ltM x y=false) (k:ltM y x=false):x=y:=by
  have h:=q3ot _ _ h
  have k:=q3ot _ _ k
  obtain ⟨e1,e2⟩:=q_eq hx hy (by omega)
  obtain ⟨a,b,c,e,⟨⟩⟩:=x
  obtain ⟨a',b',c',e',⟨⟩⟩:=y
  simp only at e1 e2 h k
  subst e1 e2
  have:c=c':=by omega
  have:e=e':=by omega
  subst_vars;rfl
theorem q3p0 {n d:Int} (hd:d≠0) (hn:n.natAbs≤4194304) (hd2:d.natAbs≤4194304):(mk n d).2.2=0∧qcv (mk n d).1 (mk n d).2.1=0∧(mk n d).1.natAbs≤4194304∧(mk n d).2.1≤4194304:=by
  have hg:=qdr (n:=n) hd
  rw [qdq hd]
  have b1:n.natAbs / Nat.gcd n.natAbs d.natAbs≤n.natAbs:=Nat.div_le_self _ _
  have b2:d.natAbs / Nat.gcd n.natAbs d.natAbs≤d.natAbs:=Nat.div_le_self _ _
  have b3:1≤d.natAbs / Nat.gcd n.natAbs d.natAbs:=Nat.div_pos (Nat.gcd_le_right _ (by omega)) hg
  have hc:Nat.gcd (d.natAbs / Nat.gcd n.natAbs d.natAbs) (n.natAbs / Nat.gcd n.natAbs d.natAbs)=1:=by
    rw [Nat.gcd_comm];exact Nat.coprime_div_gcd_div_gcd hg
  generalize n.natAbs / Nat.gcd n.natAbs d.natAbs=A at *
  generalize d.natAbs / Nat.gcd n.natAbs d.natAbs=B at *
  have hno:¬ (0<0∨9223372036854775807<A∨0<0∨9223372036854775807<B):=by omega
  cases (decide (n<0) != decide (d<0)) with
  | true =>
    rw [qdm hno]
    refine ⟨rfl,qcy (by simp only;omega) (by simp only;omega) ?_,by simp only;omega,by simp only;omega⟩
    simp only [Int.toNat_natCast,Int.natAbs_neg,Int.natAbs_natCast];exact hc
  | false =>
    rw [qdn hno]
    refine ⟨rfl,qcy (by simp only;omega) (by simp only;omega) ?_,by simp only;omega,by simp only;omega⟩
    simp only [Int.toNat_natCast,Int.natAbs_natCast];exact hc
def mtP (x:T3×T3):Option M4:=if x.1.2.2.1=x.2.2.2.1 then none else some ((mk (x.1.2.1 - x.2.2.1) (x.2.2.2.1 - x.1.2.2.1)).1,(mk (x.1.2.1 - x.2.2.1) (x.2.2.2.1 - x.1.2.2.1)).2.1,x.1.1,x.2.1,())
def q3p1 (l:List T3):List M4:=(qwo l).filterMap mtP
def allM (l:List T3):List M4:=qu1 ltM (q3p1 l)
def okP (p:T3):Prop:=(ofP p).chk=0
theorem q3p2 {α:Type} {R:α→α→Prop}:∀ {l:List α} {x:α×α},x∈qwo l→l.Pairwise R→x.1∈l∧x.2∈l∧R x.1 x.2
  | [],x,h,_=>by cases h
  | p :: r, x, h, hR => by
    obtain ⟨h1,h2⟩:=List.pairwise_cons.1 hR
    rw [qwo] at h
    rcases List.mem_append.1 h with h | h
    · obtain ⟨q, hq, rfl⟩ := List.mem_map.1 h
      exact ⟨List.mem_cons_self ..,List.mem_cons_of_mem _ hq,h1 q hq⟩
    · obtain ⟨a, b, c⟩ := q3p2 h h2
      exact ⟨List.mem_cons_of_mem _ a,List.mem_cons_of_mem _ b,c⟩
theorem q3p3 {α:Type}:∀ l:List α,(qwo l).length≤l.length*l.length
  | []=>Nat.le_refl _
  | p :: r => by
    have:=q3p3 r
    rw [qwo,List.length_append,List.length_map,List.length_cons]
    have e:(r.length+1)*(r.length+1)=r.length*r.length+2*r.length+1:=by
      rw [Nat.mul_add,Nat.add_mul];omega
    omega
theorem q3p4 {x:T3×T3} {y:M4} (h1:okP x.1) (h2:okP x.2) (h:mtP x=some y):okM y∧y.1.natAbs≤4194304∧y.2.1≤4194304:=by
  unfold mtP at h
  split at h
  · cases h
  · rename_i hb
    injection h with h;subst h
    obtain ⟨_,_,a1,a2,a3,a4⟩:=qdd (show qd9 x.1.1 x.1.2.1 x.1.2.2.1=0 from h1)
    obtain ⟨_,_,b1,b2,b3,b4⟩:=qdd (show qd9 x.2.1 x.2.2.1 x.2.2.2.1=0 from h2)
    obtain ⟨_,k1,k2,k3⟩:=q3p0 (n:=x.1.2.1 - x.2.2.1) (d:=x.2.2.2.1 - x.1.2.2.1) (by omega) (by omega) (by omega)
    exact ⟨k1,k2,k3⟩
structure FldOk (l:List T3):Prop where
  len:l.length≤64
  ok:∀ p∈l,okP p
  inc:l.Pairwise fun p q=>p.1<q.1
theorem q3p5 {l:List T3} (h:FldOk l) {y:M4} (hy:y∈q3p1 l):okM y∧y.1.natAbs≤4194304∧y.2.1≤4194304:=by
  obtain ⟨x,hx,he⟩:=List.mem_filterMap.1 hy
  obtain ⟨h1,h2,_⟩:=q3p2 hx h.inc
  exact q3p4 (h.ok _ h1) (h.ok _ h2) he
theorem q3p6 {l:List T3} (h:FldOk l):(q3p1 l).length≤4096:=by
  have h1:=List.length_filterMap_le mtP (qwo l)
  have h2:=q3p3 l
  have h3:=Nat.mul_le_mul h.len h.len
  unfold q3p1;omega
theorem q3p7 (l:List T3):(allM l).Perm (q3p1 l):=qu4 _ _
theorem q3p8 {l:List T3} (h:FldOk l) {y:M4} (hy:y∈allM l):okM y∧y.1.natAbs≤4194304∧y.2.1≤4194304:=q3p5 h ((q3p7 l).mem_iff.1 hy)
theorem q3p9 {l:List T3} (h:FldOk l):(allM l).length≤4096:=by rw [(q3p7 l).length_eq];exact q3p6 h
theorem q3pa {l:List T3} (h:FldOk l):(allM l).Pairwise fun a b=>ltM b a=false :=
  qu6 (S:=okM) (fun a b _ _ h=>q3ov h) (fun a b c ha hb hc h k=>q3ox ha hb hc h k) _ fun a ha=>(q3p5 h ha).1
end Go.Pel

namespace Go.Tx
theorem q3pc {α:Type} {f g:α→α→Bool} {x:α}:∀ {l:List α},(∀ a∈l,f x a=g x a)→insL f x l=insL g x l
  | [],_=>rfl
  | y :: ys, h => by
    rw [insL,insL,h y (List.mem_cons_self ..),q3pc fun a ha=>h a (List.mem_cons_of_mem _ ha)]
theorem q3pd {α:Type} {f g:α→α→Bool}:∀ {l:List α},(∀ a∈l,∀ b∈l,f a b=g a b)→qu1 f l=qu1 g l
  | [],_=>rfl
  | x :: xs, h => by
    rw [qu1,qu1,q3pd fun a ha b hb=>h a (List.mem_cons_of_mem _ ha) b (List.mem_cons_of_mem _ hb)]
    exact q3pc fun a ha=>h x (List.mem_cons_self ..) a (List.mem_cons_of_mem _ ((qu4 g xs).mem_iff.1 ha))
theorem q3pe {α β:Type} {step:α→List β→Option (List β)} {g:α→Option β} {P:α→Prop} (hs:∀ a acc,P a→acc.length≤99999→step a acc=some (acc++(g a).toList)):∀ (l:List α) (acc:List β),(∀ a∈l,P a)→acc.length+l.length≤99999→qti step l acc=some (acc++l.filterMap g)
  | [],acc,_,_=>by simp [qti]
  | a :: l, acc, h, hl => by
    rw [List.length_cons] at hl
    have h1:(g a).toList.length≤1:=by cases g a<;>simp
    rw [qti,hs a acc (h a (List.mem_cons_self ..)) (by omega)]
    show qti step l (acc++(g a).toList)=_
    rw [q3pe hs l _ (fun b hb=>h b (List.mem_cons_of_mem _ hb)) (by rw [List.length_append];omega)]
    cases hg:g a<;>simp [hg]
theorem q3pf {τ:Row} {F:den τ×den τ×Unit→Option Int} {S:den τ→Prop} {lt:den τ→den τ→Bool} {c:den τ→den τ→Int} {xs:List (den τ)} (hS:∀ x∈xs,S x) (hF:∀ x y,S x→S y→F (x,y,())=some (c x y)) (hc:∀ x y,lt x y=decide (c x y<0)) (hi:∀ x,lt x x=false)
    (ht:∀ x y z,S x→S y→S z→lt x y=true→lt y z=true→lt x z=true) (hn:∀ x y z,S x→S y→S z→lt x y=false→lt y z=false→lt x z=false) (he:∀ x y,S x→S y→lt x y=false→lt y x=false→eqR τ x y=true) (hl:xs.length≤1000000):qu2 F xs=some (qu1 lt xs):=by
  have hlt:∀ x y,S x→S y→ltV F x y=lt x y:=fun x y hx hy=>by unfold ltV cmpV;rw [hF x y hx hy,hc]
  have hB:qu0 F xs=true:=by
    unfold qu0
    simp only [Bool.and_eq_true,List.all_eq_true,Bool.or_eq_true,Bool.not_eq_true']
    refine ⟨⟨⟨⟨fun x hx y hy=>?_,fun x hx=>?_⟩,fun x hx y hy=>?_⟩,fun x hx y hy=>?_⟩,fun x hx y hy=>?_⟩
    · rw [hF x y (hS x hx) (hS y hy)];rfl
    · rw [hlt x x (hS x hx) (hS x hx)];exact hi x
    · rw [hlt x y (hS x hx) (hS y hy)]
      cases hxy:lt x y with
      | false=>exact .inl rfl
      | true =>
        refine .inr fun z hz=>?_
        rw [hlt y z (hS y hy) (hS z hz),hlt x z (hS x hx) (hS z hz)]
        cases hyz:lt y z with
        | false=>exact .inl rfl
        | true=>exact .inr (ht x y z (hS x hx) (hS y hy) (hS z hz) hxy hyz)
    · rw [hlt x y (hS x hx) (hS y hy)]
      cases hxy:lt x y with
      | true=>exact .inl rfl
      | false =>
        refine .inr fun z hz=>?_
        rw [hlt y z (hS y hy) (hS z hz),hlt x z (hS x hx) (hS z hz)]
        cases hyz:lt y z with
        | true=>exact .inl rfl
        | false=>exact .inr (hn x y z (hS x hx) (hS y hy) (hS z hz) hxy hyz)
    · rw [hlt x y (hS x hx) (hS y hy), hlt y x (hS y hy) (hS x hx)]
      cases hxy:lt x y with
      | true=>exact .inl (.inl rfl)
      | false =>
        cases hyx:lt y x with
        | true=>exact .inl (.inr rfl)
        | false=>exact .inr (he x y (hS x hx) (hS y hy) hxy hyx)
  unfold qu2
  rw [hB,show Nat.ble xs.length 1000000=true by rw [Nat.ble_eq];exact hl]
  exact congrArg some (q3pd fun a ha b hb=>hlt a b (hS a ha) (hS b hb))
end Go.Tx
namespace Go.Proofs.YtpfhgnccpiildaaGreat
open Go Go.Tx Go.Pel
theorem q3pg {a:Int} (h:a.natAbs≤9223372036854775807):i64B a=true:=by
  unfold i64B;simp only [Bool.and_eq_true,decide_eq_true_eq];omega
theorem q3ph (d:Nat) (hd:5≤d) (a b c:Int):q1c7 d (([(a,()),(b,()),(c,())],()),())=some (orZ a (orZ b c)):=by
  obtain ⟨n,rfl⟩:∃ n,d=n+5:=⟨d - 5,by omega⟩
  have w1:IntKind.wrap .i64 ((0:Int)+1)=1:=by decide
  have w2:IntKind.wrap .i64 ((1:Int)+1)=2:=by decide
  have w3:IntKind.wrap .i64 ((2:Int)+1)=3:=by decide
  have w4:IntKind.wrap .i64 (1:Int)=1:=by decide
  have w5:IntKind.wrap .i64 (2:Int)=2:=by decide
  have w6:IntKind.wrap .i64 (3:Int)=3:=by decide
  have b0:inB 0 3=true:=by decide
  have b1:inB 1 3=true:=by decide
  have b2:inB 2 3=true:=by decide
  unfold orZ
  by_cases ha:a=0
  · by_cases hb : b = 0
    · by_cases hc : c = 0
      · subst ha hb hc
        simp [q1c7,q1b8,q1bc,q1bg,q1bk,q1bo,q1bs,q1bw,q1c0,q1c2,q1c4,q1c6,iter,Dt.eval,w1,w2,w3,w4,w5,w6,b0,b1,b2,elt]
      · subst ha hb
        simp [q1c7,q1b8,q1bc,q1bg,q1bk,q1bo,q1bs,q1bw,q1c0,q1c2,q1c4,q1c6,iter,Dt.eval,w1,w2,w3,w4,w5,w6,b0,b1,b2,elt,show (c != 0)=true by simpa using hc]
    · subst ha
      simp [q1c7,q1b8,q1bc,q1bg,q1bk,q1bo,q1bs,q1bw,q1c0,q1c2,q1c4,q1c6,iter,Dt.eval,w1,w2,w3,w4,w5,w6,b0,b1,b2,elt,show (b != 0)=true by simpa using hb]
      intro h;exact absurd h hb
  · simp [q1c7, q1b8, q1bc, q1bg, q1bk, q1bo, q1bs, q1bw, q1c0, q1c2, q1c4, q1c6, iter, Dt.eval, w1, w2, w3, w4, w5, w6, b0, b1, b2, elt, show (a != 0) = true by simpa using ha]
    intro h;exact absurd h ha
structure okW (x:M4):Prop where
  ok:okM x
  n:x.1.natAbs≤4194304
  d:x.2.1≤4194304
theorem okW.b1 {x:M4} (h:okW x):i64B x.1=true:=q3pg (by have:=h.n;omega)
theorem okW.b2 {x:M4} (h:okW x):i64B x.2.1=true:=q3pg (by have:=h.d;have:=(qd2 h.ok).1;omega)
theorem q3pi (d:Nat) (hd:5≤d) {x y:M4} (hx:okW x) (hy:okW y):q1cr d (x,y,())=some (cmpM x y):=by
  have e1:q16p d ((x.1,x.2.1,()),(y.1,y.2.1,()),())=some (cmpQ x.1 x.2.1 y.1 y.2.1):=by
    rw [q3on d _ _ _ _ hx.b1 hx.b2 hy.b1 hy.b2];unfold cmpR;rw [if_pos ⟨hx.ok,hy.ok⟩]
  have e2:=q3og d x.2.2.1 y.2.2.1
  have e3:=q3og d x.2.2.2.1 y.2.2.2.1
  simp only [q1cr,q1cf,q1cl,q1cp,Dt.eval,e1,e2,e3,q3ph d hd]
  rfl
theorem q3pj (d:Nat) (hd:5≤d) {xs:List M4} (h:∀ x∈xs,okW x) (hl:xs.length≤1000000):qu2 (τ:=qj8) (q1cr d) xs=some (qu1 ltM xs) :=
  q3pf (τ:=qj8) (S:=okW) (lt:=ltM) (c:=cmpM) h (fun x y hx hy=>q3pi d hd hx hy) (fun _ _=>rfl) q3ou (fun x y z hx hy hz=>q3ow hx.ok hy.ok hz.ok) (fun x y z hx hy hz=>q3ox hx.ok hy.ok hz.ok) (fun x y hx hy h1 h2=>by
    have:=q3oy hx.ok hy.ok h1 h2
    subst this
    show (x.1 == x.1&&(x.2.1 == x.2.1&&(x.2.2.1 == x.2.2.1&&(x.2.2.2.1 == x.2.2.2.1&&true))))=true
    simp only [beq_self_eq_true,Bool.and_self]) hl
theorem q3pk {p:T3} (h:okP p):0≤p.1∧p.1≤65535∧-1048576≤p.2.1∧p.2.1≤1048576∧-1048576≤p.2.2.1∧p.2.2.1≤1048576:=qdd (show qd9 p.1 p.2.1 p.2.2.1=0 from h)
theorem q3pl (d:Nat) {p q:T3} (hp:okP p) (hq:okP q) (hi:p.1≠q.1):qxu d ((p.1,p.2.1,p.2.2.1,()),(q.1,q.2.1,q.2.2.1,()),()) =
    some (if p.2.2.1=q.2.2.1 then (0,0,6) else ((mk (p.2.1 - q.2.1) (q.2.2.1 - p.2.2.1)).1,(mk (p.2.1 - q.2.1) (q.2.2.1 - p.2.2.1)).2.1,0)):=by
  obtain ⟨_,_,a1,a2,a3,a4⟩:=q3pk hp
  obtain ⟨_,_,b1,b2,b3,b4⟩:=q3pk hq
  have e1:qom d ((p.1,p.2.1,p.2.2.1,()),(q.1,q.2.1,q.2.2.1,()),((0:Int),(1:Int),()),())=some 0:=by
    rw [qon _ _ (by rfl)]
    exact congrArg some (qkq ⟨hp,hq,show qcv 0 1=0 by decide⟩ hi)
  have w1:IntKind.wrap .i64 (p.2.1 - q.2.1)=p.2.1 - q.2.1:=IntWalk.i64_in _ (by omega)
  have w2:IntKind.wrap .i64 (q.2.2.1 - p.2.2.1)=q.2.2.1 - p.2.2.1:=IntWalk.i64_in _ (by omega)
  have e2:qnd d ((p.2.1 - q.2.1,()),(q.2.2.1 - p.2.2.1,()),())=some ((mk (p.2.1 - q.2.1) (q.2.2.1 - p.2.2.1)).1,(mk (p.2.1 - q.2.1) (q.2.2.1 - p.2.2.1)).2.1,(mk (p.2.1 - q.2.1) (q.2.2.1 - p.2.2.1)).2.2) :=
    qne _ _ (by unfold qnc;simp only;rw [q3pg (by omega),q3pg (by omega)];rfl)
  simp only [qxu,qx2,qx8,qxc,qxg,qxk,qxo,qxq,qxs,Dt.eval,e1,show ((0:Int) != 0)=false from rfl,cond_false]
  by_cases hb:p.2.2.1=q.2.2.1
  · simp only [hb,beq_self_eq_true,cond_true,if_true]
  · have hb' : (p.2.2.1 == q.2.2.1) = false := by simpa using hb
    have h0:=(q3p0 (n:=p.2.1 - q.2.1) (d:=q.2.2.1 - p.2.2.1) (by omega) (by omega) (by omega)).1
    simp only [hb',cond_false,hb,if_false,w1,w2,e2,h0]
    rfl
theorem q3pm (d:Nat) (hd:5≤d) {l:List T3} (h:FldOk l):q27m d ((l,()),())=some (allM l):=by
  have hlen:=q3p3 l
  have hl4:=Nat.mul_le_mul h.len h.len
  have e1:q18y d ((l,()),())=some l:=by simp only [q18y,q18m,q18s,q18w,Dt.eval]
  have hp:qwp l=true:=by unfold qwp;rw [Nat.ble_eq];have:=h.len;omega
  have hstep:∀ (x:T3×T3) (acc:List M4),(okP x.1∧okP x.2∧x.1.1≠x.2.1)→acc.length≤99999→qtl (q27e d) (q27f d) x acc=some (acc++(mtP x).toList):=by
    rintro x acc ⟨h1,h2,h3⟩ hacc
    have e2:=q3pl d h1 h2 h3
    have ha:apB acc.length 1=true:=by unfold apB;rw [Nat.ble_eq];omega
    unfold qtl q27e q27f mtP
    simp only [q26w,q270,q274,q278,q27c,Dt.eval,q26c,e2,Option.bind_some]
    by_cases hb:x.1.2.2.1=x.2.2.2.1
    · simp only [hb, if_true, show ((6 : Int) == 0) = false from rfl, cond_false]
      simp
    · simp only [hb, if_false, show ((0 : Int) == 0) = true from rfl, cond_true, List.length_cons, List.length_nil, Nat.zero_add, ha]
      simp
  have e3:=q3pe hstep (qwo l) [] (fun x hx=>by
    obtain ⟨g1,g2,g3⟩:=q3p2 hx h.inc
    exact ⟨h.ok _ g1,h.ok _ g2,by omega⟩) (by simp;omega)
  have e4:=q3pj d hd (xs:=q3p1 l) (fun x hx=>⟨(q3p5 h hx).1,(q3p5 h hx).2.1,(q3p5 h hx).2.2⟩) (by have:=q3p6 h;omega)
  simp only [q27m,q26c,q26i,q26m,q26q,q27g,q27k,Dt.eval,e1,hp,cond_true]
  rw [e3]
  simp only [Option.bind_some,List.nil_append]
  rw [show (qwo l).filterMap mtP=q3p1 l from rfl,e4]
  rfl
end Go.Proofs.YtpfhgnccpiildaaGreat
