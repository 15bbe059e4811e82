/- Walks of the references; the orders agree; examples. -/
import Derived.Test.YtoakhncbmpdacaaRows
import Derived.ProofKit
import Derived.OpenShut
import Derived.ShutString
import Derived.ChangeOld
import Derived.Deep.Slices
import Derived.Test.YtoakhncbmpdacaaGh
set_option linter.unusedSimpArgs false
set_option linter.unusedVariables false
namespace Go.Proofs.Ytoakhncbmpdacaa
open Go Go.Tx Go.Proofs.Try
set_option maxRecDepth 100000
set_option maxHeartbeats 0
abbrev q2ud:List Pk:=[]
abbrev q2ue:Type:=Unit
abbrev q2uf:Type:=List Diii
def q2ug (r:q2uf):LV×List Ob:=(.agg [.rs 0],[.rows Riii r])
def q2uh (F:q2ue→Option q2uf):Go.Tx.Spec:=⟨38,q2ud,q2uf,F,q2ug⟩
abbrev q2ui:Type:=Unit
def q2uj (_d:Nat):q2ui:=()
def q2uk (C:q2ui):List Go.Tx.Spec:=[]
abbrev q2ul:Type:=Unit
def q2um (v:q2ul):St:=⟨[],[]⟩
abbrev q2un:Type:=List Diii
def q2uo (v:q2un):St:=⟨[(0,.ptr 0 0)],[.cells [.rs 1],.rows Riii v]⟩
def q2up (C:q2ui) (v:q2ul):Dt q2un:=(Dt.ret ([]:List Diii))
abbrev q35l {V Y:Type}:=@rg q2ui V Y tysT (fun C=>(orc (q2uk C))) 6
theorem q2uq C v:q35l (regO (qea f38) 0) false [(0,(.box [.own Riii]))] q2um q2up q2uo C v:=rgI (by kernel_rfl)
def q2ur (C:q2ui) (v:q2un):Dt q2un:=(Dt.ret ([((1:Int),(0:Int),(2:Int),()),((2:Int),(6:Int),(-1:Int),()),((5:Int),(0:Int),(0:Int),())]:List Diii))
theorem q2us C v:q35l (regO (qea f38) 1) false [(0,(.box [.own Riii]))] q2uo q2ur q2uo C v:=rgI (by kernel_rfl)
def q2ut (d:Nat) (x:q2ue):Option q2uf :=
 (q2up (q2uj d) ()).eval fun y0 =>
 (q2ur (q2uj d) y0).eval fun y1 =>
 some y1
theorem q2uu (d:Nat):COK prog (q2uh (q2ut d)):=by
 have hm:prog.follows .mixedOrders=true:=mixed
 have hT:=tys
 have hC0:OrcOK prog (orc (q2uk (q2uj d))):=qe4 (by
  intro S hS
  simp only [q2uk,List.mem_cons,List.not_mem_nil,or_false] at hS
  all_goals first | cases hS | exact hS.elim)
 have hC:OrcOK prog (orc (q2uk (q2uj d))):=hC0
 refine q9t (c:=qea f38) (fn:=f38) hT (by kernel_rfl) (by kernel_rfl) (by decide) fun x r h w0 φ0 Q hend=>?_
 replace h:q2ut d x=some r:=h
 unfold q2ut at h
 show Run prog w0 φ0 6 (qea f38) ⟨[],[]⟩ Q
 refine q344 hm hT hC (q2uq (q2uj d) ()) h fun y0 h=>?_
 refine q344 hm hT hC (q2us (q2uj d) y0) h fun y1 h=>?_
 refine q9c ?_
 cases h
 exact (hend _ (by kernel_rfl)).2
abbrev q2uv:List Pk:=[.row Ri false]
abbrev q2uw:Type:=Di×Unit
abbrev q2ux:Type:=Int×Int
def q2uy (r:q2ux):LV×List Ob:=(.agg [.int .i64 r.1,.int .i64 r.2],[])
def q2uz (F:q2uw→Option q2ux):Go.Tx.Spec:=⟨40,q2uv,q2ux,F,q2uy⟩
abbrev q2v0:Type:=Unit
def q2v1 (_d:Nat):q2v0:=()
def q2v2 (C:q2v0):List Go.Tx.Spec:=[]
abbrev q2v3:Type:=Int
def q2v4 (v:q2v3):St:=⟨[(0,i6 v)],[]⟩
abbrev q2v5:Type:=Int×Int×Int
def q2v6 (v:q2v5):St:=⟨[(0,i6 v.1),(2,.ptr 0 0)],[.cells [i6 v.2.1,i6 v.2.2]]⟩
def q2v7 (C:q2v0) (v:q2v3):Dt q2v5:=(Dt.ret (v,(0:Int),(0:Int)))
abbrev q35m {V Y:Type}:=@rg q2v0 V Y tysT (fun C=>(orc (q2v2 C))) 5
theorem q2v8 C v:q35m (regO (qea f40) 0) false (an [0,2]) q2v4 q2v7 q2v6 C v:=rgI (by kernel_rfl)
abbrev q2v9:Type:=Int×Int
def q2va (v:q2v9):St:=⟨[(2,.ptr 0 0)],[.cells [i6 v.1,i6 v.2]]⟩
def q2vb (C:q2v0) (v:q2v5):Dt q2v9:=(Dt.ret (v.1,(1:Int)))
theorem q2vc C v:q35m (regO (qea f40) 1) false [(2,.any)] q2v6 q2vb q2va C v:=rgI (by kernel_rfl)
def q2vd (d:Nat) (x:q2uw):Option q2ux :=
 (q2v7 (q2v1 d) x.1.1).eval fun y0 =>
 (q2vb (q2v1 d) y0).eval fun y1 =>
 some y1
theorem q2ve (d:Nat):COK prog (q2uz (q2vd d)):=by
 have hm:prog.follows .mixedOrders=true:=mixed
 have hT:=tys
 have hC0:OrcOK prog (orc (q2v2 (q2v1 d))):=qe4 (by
  intro S hS
  simp only [q2v2,List.mem_cons,List.not_mem_nil,or_false] at hS
  all_goals first | cases hS | exact hS.elim)
 have hC:OrcOK prog (orc (q2v2 (q2v1 d))):=hC0
 refine q9t (c:=qea f40) (fn:=f40) hT (by kernel_rfl) (by kernel_rfl) (by decide) fun x r h w0 φ0 Q hend=>?_
 replace h:q2vd d x=some r:=h
 unfold q2vd at h
 show Run prog w0 φ0 5 (qea f40) ⟨[(0,.int .i64 x.1.1)],[]⟩ Q
 refine q344 hm hT hC (q2v8 (q2v1 d) x.1.1) h fun y0 h=>?_
 refine q344 hm hT hC (q2vc (q2v1 d) y0) h fun y1 h=>?_
 refine q9c ?_
 cases h
 exact (hend _ (by kernel_rfl)).2
abbrev q2vf:List Pk:=[]
abbrev q2vg:Type:=Unit
abbrev q2vh:Type:=Int×List Diii
def q2vi (r:q2vh):LV×List Ob:=(.agg [.int .i64 r.1,.rs 0],[.rows Riii r.2])
def q2vj (F:q2vg→Option q2vh):Go.Tx.Spec:=⟨41,q2vf,q2vh,F,q2vi⟩
abbrev q2vk:Type:=Unit
def q2vl (_d:Nat):q2vk:=()
def q2vm (C:q2vk):List Go.Tx.Spec:=[]
abbrev q2vn:Type:=Unit
def q2vo (v:q2vn):St:=⟨[],[]⟩
abbrev q2vp:Type:=Int×List Diii
def q2vq (v:q2vp):St:=⟨[(0,.ptr 0 0)],[.cells [i6 v.1,.rs 1],.rows Riii v.2]⟩
def q2vr (C:q2vk) (v:q2vn):Dt q2vp:=(Dt.ret ((0:Int),([]:List Diii)))
abbrev q35n {V Y:Type}:=@rg q2vk V Y tysT (fun C=>(orc (q2vm C))) 6
theorem q2vs C v:q35n (regO (qea f41) 0) false [(0,(.box [.any,.own Riii]))] q2vo q2vr q2vq C v:=rgI (by kernel_rfl)
def q2vt (C:q2vk) (v:q2vp):Dt q2vp:=(Dt.ret ((0:Int),([((1:Int),(-1:Int),(1:Int),()),((2:Int),(-1:Int),(2:Int),()),((5:Int),(-1:Int),(-1:Int),())]:List Diii)))
theorem q2vu C v:q35n (regO (qea f41) 1) false [(0,(.box [.any,.own Riii]))] q2vq q2vt q2vq C v:=rgI (by kernel_rfl)
def q2vv (d:Nat) (x:q2vg):Option q2vh :=
 (q2vr (q2vl d) ()).eval fun y0 =>
 (q2vt (q2vl d) y0).eval fun y1 =>
 some y1
theorem q2vw (d:Nat):COK prog (q2vj (q2vv d)):=by
 have hm:prog.follows .mixedOrders=true:=mixed
 have hT:=tys
 have hC0:OrcOK prog (orc (q2vm (q2vl d))):=qe4 (by
  intro S hS
  simp only [q2vm,List.mem_cons,List.not_mem_nil,or_false] at hS
  all_goals first | cases hS | exact hS.elim)
 have hC:OrcOK prog (orc (q2vm (q2vl d))):=hC0
 refine q9t (c:=qea f41) (fn:=f41) hT (by kernel_rfl) (by kernel_rfl) (by decide) fun x r h w0 φ0 Q hend=>?_
 replace h:q2vv d x=some r:=h
 unfold q2vv at h
 show Run prog w0 φ0 6 (qea f41) ⟨[],[]⟩ Q
 refine q344 hm hT hC (q2vs (q2vl d) ()) h fun y0 h=>?_
 refine q344 hm hT hC (q2vu (q2vl d) y0) h fun y1 h=>?_
 refine q9c ?_
 cases h
 exact (hend _ (by kernel_rfl)).2
abbrev q2vx:List Pk:=[]
abbrev q2vy:Type:=Unit
abbrev q2vz:Type:=Bool
def q2w0 (r:q2vz):LV×List Ob:=(.bool r,[])
def q2w1 (F:q2vy→Option q2vz):Go.Tx.Spec:=⟨33,q2vx,q2vz,F,q2w0⟩
abbrev q2w2:Type:=(q132→Option q133)×(q10g→Option q10h)×(q1ba→Option q1bb)×(q2fw→Option q2fx)×(q2ue→Option q2uf)×(q2uw→Option q2ux)×(q2vg→Option q2vh)×Unit
def q2w3 (d:Nat):q2w2:=(q15h d,q125 d,q1ce d,q2ke d,q2ut d,q2vd d,q2vv d,())
def q2w4 (C:q2w2):List Go.Tx.Spec:=[q135 C.1,q10j C.2.1,q1bd C.2.2.1,q2fz C.2.2.2.1,q2uh C.2.2.2.2.1,q2uz C.2.2.2.2.2.1,q2vj C.2.2.2.2.2.2.1]
abbrev q2w5:Type:=Unit
def q2w6 (v:q2w5):St:=⟨[],[]⟩
def q2w7 (C:q2w2) (v:q2w5):Dt q2w5:=(Dt.ret ())
abbrev q35o {V Y:Type}:=@rg q2w2 V Y tysT (fun C=>(orc (q2w4 C))) 80
theorem q2w8 C v:q35o (regO (qea f33) 0) false [] q2w6 q2w7 q2w6 C v:=rgI (by kernel_rfl)
abbrev q2w9:Type:=Int×Int×List Diii
def q2wa (v:q2w9):St:=⟨[(1,.ptr 0 0),(2,i6 v.1)],[.cells [i6 v.2.1,.rs 1],.rows Riii v.2.2]⟩
def q2wb (C:q2w2) (v:q2w5):Dt q2w9:=(Dt.bnd (C.2.2.2.2.1 (())) fun r1=>(Dt.bnd (C.2.2.2.2.2.1 (((0:Int),()),())) fun r2=>(Dt.bnd (C.1 ((r1,()),(r2.1,r2.2,()),())) fun r3=>(Dt.ret (r3.2.2,r3.1,r3.2.1)))))
theorem q2wc C v:q35o (regO (qea f33) 1) false [(1,(.box [.any,.own Riii])),(2,.any)] q2w6 q2wb q2wa C v:=rgI (by kernel_rfl)
abbrev q2wd:Type:=Int×Int×Int×List Diii×Int×List Diii
def q2we (v:q2wd):St:=⟨[(1,.ptr 0 0),(2,i6 v.1),(3,.ptr 2 0),(4,i6 v.2.1)],[.cells [i6 v.2.2.1,.rs 1],.rows Riii v.2.2.2.1,.cells [i6 v.2.2.2.2.1,.rs 3],.rows Riii v.2.2.2.2.2]⟩
def q2wf (C:q2w2) (v:q2w9):Dt q2wd:=(Dt.bnd (C.2.2.2.2.1 (())) fun r1=>(Dt.bnd (C.2.2.2.2.2.1 (((2:Int),()),())) fun r2=>(Dt.bnd (C.1 ((r1,()),(r2.1,r2.2,()),())) fun r3=>(Dt.ret (v.1,r3.2.2,v.2.1,v.2.2,r3.1,r3.2.1)))))
theorem q2wg C v:q35o (regO (qea f33) 2) false [(1,(.box [.any,.own Riii])),(2,.any),(3,(.box [.any,.own Riii])),(4,.any)] q2wa q2wf q2we C v:=rgI (by kernel_rfl)
abbrev q2wh:Type:=Int×Int×Int×Int×Int×List Diii×Int×List Diii
def q2wi (v:q2wh):St:=⟨[(1,.ptr 0 0),(2,i6 v.1),(3,.ptr 2 0),(4,i6 v.2.1),(5,i6 v.2.2.1),(6,i6 v.2.2.2.1)],[.cells [i6 v.2.2.2.2.1,.rs 1],.rows Riii v.2.2.2.2.2.1,.cells [i6 v.2.2.2.2.2.2.1,.rs 3],.rows Riii v.2.2.2.2.2.2.2]⟩
def q2wj (C:q2w2) (v:q2wd):Dt q2wh:=(Dt.bnd (C.2.1 ((v.2.2.2.2.1,v.2.2.2.2.2,()),((5:Int),()),())) fun r1=>(Dt.ret (v.1,v.2.1,r1.1,r1.2,v.2.2.1,v.2.2.2.1,v.2.2.2.2.1,v.2.2.2.2.2)))
theorem q2wk C v:q35o (regO (qea f33) 3) false [(1,(.box [.any,.own Riii])),(2,.any),(3,(.box [.any,.own Riii])),(4,.any),(5,.any),(6,.any)] q2we q2wj q2wi C v:=rgI (by kernel_rfl)
abbrev q2wl:Type:=Int×Int×Int×Int×Int×Int×List Diii×Int×List Diii×Int×List Diii×Int×List Diii
def q2wm (v:q2wl):St:=⟨[(1,.ptr 0 0),(2,i6 v.1),(3,.ptr 2 0),(4,i6 v.2.1),(5,i6 v.2.2.1),(6,i6 v.2.2.2.1),(7,.ptr 4 0),(8,.ptr 6 0),(9,i6 v.2.2.2.2.1)],[.cells [i6 v.2.2.2.2.2.1,.rs 1],.rows Riii v.2.2.2.2.2.2.1,.cells [i6 v.2.2.2.2.2.2.2.1,.rs 3],.rows Riii v.2.2.2.2.2.2.2.2.1,.cells [i6 v.2.2.2.2.2.2.2.2.2.1,.rs 5],.rows Riii v.2.2.2.2.2.2.2.2.2.2.1,.cells [i6 v.2.2.2.2.2.2.2.2.2.2.2.1,.rs 7],.rows Riii v.2.2.2.2.2.2.2.2.2.2.2.2]⟩
def q2wn (C:q2w2) (v:q2wh):Dt q2wl:=(Dt.bnd (C.2.2.2.1 ((v.2.2.2.2.2.2.1,v.2.2.2.2.2.2.2,()),((2:Int),()),())) fun r1=>(Dt.ret (v.1,v.2.1,v.2.2.1,v.2.2.2.1,r1.2.2.2.2,v.2.2.2.2.1,v.2.2.2.2.2.1,v.2.2.2.2.2.2.1,v.2.2.2.2.2.2.2,r1.1,r1.2.1,r1.2.2.1,r1.2.2.2.1)))
theorem q2wo C v:q35o (regO (qea f33) 4) false [(1,(.box [.any,.own Riii])),(2,.any),(3,(.box [.any,.own Riii])),(4,.any),(5,.any),(6,.any),(7,(.box [.any,.own Riii])),(8,(.box [.any,.own Riii])),(9,.any)] q2wi q2wn q2wm C v:=rgI (by kernel_rfl)
abbrev q2wp:Type:=Bool
def q2wq (v:q2wp):St:=⟨[(0,.bool v)],[]⟩
def q2wr (C:q2w2) (v:q2wl):Dt q2wp:=(Dt.ite (v.1 == (0:Int)) (Dt.bnd (C.2.2.1 ((v.2.2.2.2.2.1,v.2.2.2.2.2.2.1,()),((1:Int),([((1:Int),(-1:Int),(-1:Int),()),((2:Int),(0:Int),(2:Int),()),((5:Int),(-1:Int),(-1:Int),())]:List Diii),()),())) fun r1=>(Dt.ite r1 (Dt.ite (v.2.1 == (0:Int)) (Dt.bnd (C.2.2.2.2.2.2.1 (())) fun r2=>(Dt.bnd (C.2.2.1 ((v.2.2.2.2.2.2.2.1,v.2.2.2.2.2.2.2.2.1,()),(r2.1,r2.2,()),())) fun r3=>(Dt.ite r3 (Dt.ite (v.2.2.2.1 == (0:Int)) (Dt.ite (v.2.2.1 == (2:Int)) (Dt.ite (v.2.2.2.2.1 == (0:Int)) (Dt.bnd (C.2.2.1 ((v.2.2.2.2.2.2.2.2.2.1,v.2.2.2.2.2.2.2.2.2.2.1,()),((0:Int),([((1:Int),(-1:Int),(-1:Int),())]:List Diii),()),())) fun r4=>(Dt.ite r4 (Dt.bnd (C.2.2.1 ((v.2.2.2.2.2.2.2.2.2.2.2.1,v.2.2.2.2.2.2.2.2.2.2.2.2,()),((0:Int),([((2:Int),(-1:Int),(1:Int),()),((5:Int),(-1:Int),(-1:Int),())]:List Diii),()),())) fun r5=>(Dt.ret r5)) (Dt.ret false))) (Dt.ret false)) (Dt.ret false)) (Dt.ret false)) (Dt.ret false)))) (Dt.ret false)) (Dt.ret false))) (Dt.ret false))
theorem q2ws C v:q35o (regO (qea f33) 5) true [(0,.any)] q2wm q2wr q2wq C v:=rgI (by kernel_rfl)
def q2wt (d:Nat) (x:q2vy):Option q2vz :=
 (q2w7 (q2w3 d) ()).eval fun y0 =>
 (q2wb (q2w3 d) ()).eval fun y1 =>
 (q2wf (q2w3 d) y1).eval fun y2 =>
 (q2wj (q2w3 d) y2).eval fun y3 =>
 (q2wn (q2w3 d) y3).eval fun y4 =>
 (q2wr (q2w3 d) y4).eval fun y5 =>
 some y5
theorem q2wu (d:Nat):COK prog (q2w1 (q2wt d)):=by
 have hm:prog.follows .mixedOrders=true:=mixed
 have hT:=tys
 have hC0:OrcOK prog (orc (q2w4 (q2w3 d))):=qe4 (by
  intro S hS
  simp only [q2w4,List.mem_cons,List.not_mem_nil,or_false] at hS
  rcases hS with rfl | rfl | rfl | rfl | rfl | rfl | rfl
  · exact q15i d
  · exact q126 d
  · exact q1cf d
  · exact q2kf d
  · exact q2uu d
  · exact q2ve d
  · exact q2vw d)
 have hC:OrcOK prog (orc (q2w4 (q2w3 d))):=hC0
 refine q9t (c:=qea f33) (fn:=f33) hT (by kernel_rfl) (by kernel_rfl) (by decide) fun x r h w0 φ0 Q hend=>?_
 replace h:q2wt d x=some r:=h
 unfold q2wt at h
 show Run prog w0 φ0 80 (qea f33) ⟨[],[]⟩ Q
 refine q344 hm hT hC (q2w8 (q2w3 d) ()) h fun y0 h=>?_
 refine q344 hm hT hC (q2wc (q2w3 d) ()) h fun y1 h=>?_
 refine q344 hm hT hC (q2wg (q2w3 d) y1) h fun y2 h=>?_
 refine q344 hm hT hC (q2wk (q2w3 d) y2) h fun y3 h=>?_
 refine q344 hm hT hC (q2wo (q2w3 d) y3) h fun y4 h=>?_
 refine q344 hm hT hC (q2ws (q2w3 d) y4) h fun y5 h=>?_
 refine q9c ?_
 cases h
 exact (hend _ (by kernel_rfl)).2
abbrev q2wv:List Pk:=[.row Ri false,.row Ri false]
abbrev q2ww:Type:=Di×Di×Unit
abbrev q2wx:Type:=Int×List Diii
def q2wy (r:q2wx):LV×List Ob:=(.agg [.int .i64 r.1,.rs 0],[.rows Riii r.2])
def q2wz (F:q2ww→Option q2wx):Go.Tx.Spec:=⟨37,q2wv,q2wx,F,q2wy⟩
abbrev q2x0:Type:=Unit
def q2x1 (_d:Nat):q2x0:=()
def q2x2 (C:q2x0):List Go.Tx.Spec:=[]
abbrev q2x3:Type:=Int×Int
def q2x4 (v:q2x3):St:=⟨[(0,i6 v.1),(1,i6 v.2)],[]⟩
abbrev q2x5:Type:=Int×Int×Int×List Diii
def q2x6 (v:q2x5):St:=⟨[(0,i6 v.1),(1,i6 v.2.1),(4,.ptr 0 0)],[.cells [i6 v.2.2.1,.rs 1],.rows Riii v.2.2.2]⟩
def q2x7 (C:q2x0) (v:q2x3):Dt q2x5:=(Dt.ret (v.1,v.2,(0:Int),([]:List Diii)))
abbrev q35p {V Y:Type}:=@rg q2x0 V Y tysT (fun C=>(orc (q2x2 C))) 34
theorem q2x8 C v:q35p (regO (qea f37) 0) false [(0,.any),(1,.any),(4,(.box [.any,.own Riii]))] q2x4 q2x7 q2x6 C v:=rgI (by kernel_rfl)
abbrev q2x9:Type:=Int×Int×Int×List Diii×Int×List Diii
def q2xa (v:q2x9):St:=⟨[(0,i6 v.1),(1,i6 v.2.1),(4,.ptr 0 0),(5,.ptr 2 0)],[.cells [i6 v.2.2.1,.rs 1],.rows Riii v.2.2.2.1,.cells [i6 v.2.2.2.2.1,.rs 3],.rows Riii v.2.2.2.2.2]⟩
def q2xb (C:q2x0) (v:q2x5):Dt q2x9:=(Dt.ret (v.1,v.2.1,v.2.2.1,v.2.2.2,(-1:Int),([]:List Diii)))
theorem q2xc C v:q35p (regO (qea f37) 1) false [(0,.any),(1,.any),(4,(.box [.any,.own Riii])),(5,(.box [.any,.own Riii]))] q2x6 q2xb q2xa C v:=rgI (by kernel_rfl)
abbrev q2xd:Type:=Int×Int×Int×Int×List Diii×Int×List Diii
def q2xe (v:q2xd):St:=⟨[(0,i6 v.1),(1,i6 v.2.1),(4,.ptr 0 0),(5,.ptr 2 0),(6,i6 v.2.2.1)],[.cells [i6 v.2.2.2.1,.rs 1],.rows Riii v.2.2.2.2.1,.cells [i6 v.2.2.2.2.2.1,.rs 3],.rows Riii v.2.2.2.2.2.2]⟩
def q2xf (C:q2x0) (v:q2x9):Dt q2xd:=(Dt.ret (v.1,v.2.1,(0:Int),v.2.2.1,v.2.2.2.1,v.2.2.2.2.1,v.2.2.2.2.2))
theorem q2xg C v:q35p (regO (qea f37) 2) false [(0,.any),(1,.any),(4,(.box [.any,.own Riii])),(5,(.box [.any,.own Riii])),(6,.any)] q2xa q2xf q2xe C v:=rgI (by kernel_rfl)
abbrev q2xh:Type:=Int×Int×Int×Bool×Int×List Diii×Int×List Diii
def q2xi (v:q2xh):St:=⟨[(0,i6 v.1),(1,i6 v.2.1),(4,.ptr 0 0),(5,.ptr 2 0),(6,i6 v.2.2.1),(10,.bool v.2.2.2.1)],[.cells [i6 v.2.2.2.2.1,.rs 1],.rows Riii v.2.2.2.2.2.1,.cells [i6 v.2.2.2.2.2.2.1,.rs 3],.rows Riii v.2.2.2.2.2.2.2]⟩
def q2xj (C:q2x0) (v:q2xd):Dt q2xh:=(Dt.ret (v.1,v.2.1,v.2.2.1,(decide (v.2.2.1<v.1)),v.2.2.2.1,v.2.2.2.2.1,v.2.2.2.2.2.1,v.2.2.2.2.2.2))
theorem q2xk C v:q35p (regO (qea f37) 3) false [(0,.any),(1,.any),(4,(.box [.any,.own Riii])),(5,(.box [.any,.own Riii])),(6,.any),(10,.any)] q2xe q2xj q2xi C v:=rgI (by kernel_rfl)
def q2xl (C:q2x0) (v:q2xh):Dt q2xd:=(Dt.ret (v.1,v.2.1,v.2.2.1,v.2.2.2.2.1,v.2.2.2.2.2.1,(0:Int),v.2.2.2.2.2.2.2))
theorem q2xm C v:q35p (regO (qea f37) 5) false [(0,.any),(1,.any),(4,(.box [.any,.own Riii])),(5,(.box [.any,.own Riii])),(6,.any)] q2xi q2xl q2xe C v:=rgI (by kernel_rfl)
def q2xn (C:q2x0) (v:q2xd):Dt q2xd:=(Dt.ite (apB (List.length v.2.2.2.2.2.2) (List.length ([((IntKind.wrap .i64 (v.2.1+v.2.2.1)),(-1:Int),(IntKind.wrap .i64 (v.2.2.1+(1:Int))),())]:List Diii))) (Dt.ret (v.1,v.2.1,v.2.2.1,v.2.2.2.1,v.2.2.2.2.1,v.2.2.2.2.2.1,(v.2.2.2.2.2.2++([((IntKind.wrap .i64 (v.2.1+v.2.2.1)),(-1:Int),(IntKind.wrap .i64 (v.2.2.1+(1:Int))),())]:List Diii)))) Dt.fail)
theorem q2xo C v:q35p (regO (qea f37) 6) false [(0,.any),(1,.any),(4,(.box [.any,.own Riii])),(5,(.box [.any,.own Riii])),(6,.any)] q2xe q2xn q2xe C v:=rgI (by kernel_rfl)
def q2xp (C:q2x0) (v:q2xd):Dt q2xd:=(Dt.ret (v.1,v.2.1,(IntKind.wrap .i64 (v.2.2.1+(1:Int))),v.2.2.2.1,v.2.2.2.2.1,v.2.2.2.2.2.1,v.2.2.2.2.2.2))
theorem q2xq C v:q35p (regO (qea f37) 4) false [(0,.any),(1,.any),(4,(.box [.any,.own Riii])),(5,(.box [.any,.own Riii])),(6,.any)] q2xe q2xp q2xe C v:=rgI (by kernel_rfl)
abbrev q2xr:Type:=Int×Bool×Int×List Diii×Int×List Diii
def q2xs (v:q2xr):St:=⟨[(0,i6 v.1),(4,.ptr 0 0),(5,.ptr 2 0),(26,.bool v.2.1)],[.cells [i6 v.2.2.1,.rs 1],.rows Riii v.2.2.2.1,.cells [i6 v.2.2.2.2.1,.rs 3],.rows Riii v.2.2.2.2.2]⟩
def q2xt (C:q2x0) (v:q2xh):Dt q2xr:=(Dt.ret (v.1,(decide (v.1 > (0:Int))),v.2.2.2.2.1,v.2.2.2.2.2.1,v.2.2.2.2.2.2.1,v.2.2.2.2.2.2.2))
theorem q2xu C v:q35p (regO (qea f37) 7) false [(0,.any),(4,(.box [.any,.own Riii])),(5,(.box [.any,.own Riii])),(26,.any)] q2xi q2xt q2xs C v:=rgI (by kernel_rfl)
abbrev q2xv:Type:=Int×List Diii×Int×List Diii
def q2xw (v:q2xv):St:=⟨[(4,.ptr 0 0),(5,.ptr 2 0)],[.cells [i6 v.1,.rs 1],.rows Riii v.2.1,.cells [i6 v.2.2.1,.rs 3],.rows Riii v.2.2.2]⟩
def q2xx (C:q2x0) (v:q2xr):Dt q2xv:=(Dt.ite (inB (IntKind.wrap .i64 (v.1 - (1:Int))) (List.length v.2.2.2.2.2)) (Dt.ret (v.2.2.1,v.2.2.2.1,v.2.2.2.2.1,(List.set v.2.2.2.2.2 ((IntKind.wrap .i64 (v.1 - (1:Int)))).toNat ((elt ziii v.2.2.2.2.2 ((IntKind.wrap .i64 (v.1 - (1:Int)))).toNat).1,(elt ziii v.2.2.2.2.2 ((IntKind.wrap .i64 (v.1 - (1:Int)))).toNat).2.1,(-1:Int),())))) Dt.fail)
theorem q2xy C v:q35p (regO (qea f37) 8) false [(4,(.box [.any,.own Riii])),(5,(.box [.any,.own Riii]))] q2xs q2xx q2xw C v:=rgI (by kernel_rfl)
abbrev q2xz:Type:=Int×List Diii
def q2y0 (v:q2xz):St:=⟨[(4,.ptr 0 0)],[.cells [i6 v.1,.rs 1],.rows Riii v.2]⟩
def q2y1 (C:q2x0) (v:q2xv):Dt q2xz:=(Dt.ret (v.2.2.1,v.2.2.2))
theorem q2y2 C v:q35p (regO (qea f37) 9) false [(4,(.box [.any,.own Riii]))] q2xw q2y1 q2y0 C v:=rgI (by kernel_rfl)
def q2y3  (d:Nat)  (z:Int×List Diii×Int×List Diii):Option (q2wx) :=
 (q2y1 (q2x1 d) z).eval fun y9 =>
 some y9
def q2y4 (d:Nat) (self1:(Int×Int×Int×Int×List Diii×Int×List Diii)→Option q2wx) (x1:Int×Int×Int×Int×List Diii×Int×List Diii):Option q2wx :=
 (q2xj (q2x1 d) x1).eval fun y3 =>
 bif y3.2.2.2.1 then ((q2xl (q2x1 d) y3).eval fun y5 =>
 (q2xn (q2x1 d) y5).eval fun y6 =>
 (q2xp (q2x1 d) y6).eval fun y4 =>
 self1 y4) else ((q2xt (q2x1 d) y3).eval fun y7 =>
 bif y7.2.1 then ((q2xx (q2x1 d) y7).eval fun y8 =>
 q2y3 d  y8) else (q2y3 d  y7.2.2))
def q2y5 (d:Nat) (x:q2ww):Option q2wx :=
 (q2x7 (q2x1 d) (x.1.1,x.2.1.1)).eval fun y0 =>
 (q2xb (q2x1 d) y0).eval fun y1 =>
 (q2xf (q2x1 d) y1).eval fun y2 =>
 iter (q2y4 d ) d y2
theorem q2y6 (d:Nat):COK prog (q2wz (q2y5 d)):=by
 have hm:prog.follows .mixedOrders=true:=mixed
 have hT:=tys
 have hC0:OrcOK prog (orc (q2x2 (q2x1 d))):=qe4 (by
  intro S hS
  simp only [q2x2,List.mem_cons,List.not_mem_nil,or_false] at hS
  all_goals first | cases hS | exact hS.elim)
 have hC:OrcOK prog (orc (q2x2 (q2x1 d))):=hC0
 refine q9t (c:=qea f37) (fn:=f37) hT (by kernel_rfl) (by kernel_rfl) (by decide) fun x r h w0 φ0 Q hend=>?_
 replace h:q2y5 d x=some r:=h
 unfold q2y5 at h
 show Run prog w0 φ0 34 (qea f37) ⟨[(0,.int .i64 x.1.1),(1,.int .i64 x.2.1.1)],[]⟩ Q
 refine q344 hm hT hC (q2x8 (q2x1 d) (x.1.1,x.2.1.1)) h fun y0 h=>?_
 refine q344 hm hT hC (q2xc (q2x1 d) y0) h fun y1 h=>?_
 refine q9d ?_
 refine q344 hm hT hC (q2xg (q2x1 d) y1) h fun y2 h=>?_
 refine q9e ?_
 refine q9j (G:=iter (q2y4 d )) (S:=(fun x1=>⟨[(0,i6 x1.1),(1,i6 x1.2.1),(4,.ptr 0 0),(5,.ptr 2 0),(6,i6 x1.2.2.1)],[.cells [i6 x1.2.2.2.1,.rs 1],.rows Riii x1.2.2.2.2.1,.cells [i6 x1.2.2.2.2.2.1,.rs 3],.rows Riii x1.2.2.2.2.2.2]⟩:Int×Int×Int×Int×List Diii×Int×List Diii→St)) (fun _=>rfl) ?_ d _ h
 intro n1 x1 h K1 hn1
 replace h:q2y4 d  (iter (q2y4 d ) n1) x1=some r:=h
 generalize iter (q2y4 d ) n1=self1 at h hn1
 unfold q2y4 at h
 refine q9d ?_
 refine q344 hm hT hC (q2xk (q2x1 d) x1) h fun y3 h=>?_
 refine q9h (v:=y3.2.2.2.1) (by kernel_rfl) h ?_ ?_
 ·
  intro h
  refine q99 (q8z (q9d (q9e ?_)))
  refine q344 hm hT hC (q2xm (q2x1 d) y3) h fun y5 h=>?_
  refine q9i hm hT hC (q2xo (q2x1 d) y5) h ?_
  intro y6 h
  refine q92 (q8z ?_)
  refine q9i hm hT hC (q2xq (q2x1 d) y6) h ?_
  intro y4 h
  exact hn1 _ h
 ·
  intro h
  refine q9b (q90 (q90 (q94 (q8z ?_))))
  refine q9g (r:=r) (F:=q2y3 d ) (S:=(fun z=>⟨[(4,.ptr 0 0),(5,.ptr 2 0)],[.cells [i6 z.1,.rs 1],.rows Riii z.2.1,.cells [i6 z.2.2.1,.rs 3],.rows Riii z.2.2.2]⟩:Int×List Diii×Int×List Diii→St)) ?_ ?_
  ·
   intro z h
   unfold q2y3 at h
   refine q344 hm hT hC (q2y2 (q2x1 d) z) h fun y9 h=>?_
   refine q9c ?_
   cases h
   exact (hend _ (by kernel_rfl)).2
  intro hj2
  refine q344 hm hT hC (q2xu (q2x1 d) y3) h fun y7 h=>?_
  refine q9h (v:=y7.2.1) (by kernel_rfl) h ?_ ?_
  ·
   intro h
   refine q9i hm hT hC (q2xy (q2x1 d) y7) h ?_
   intro y8 h
   exact hj2 _ h
  ·
   intro h
   refine q99 ?_
   refine qe9 (s:=⟨[(4,.ptr 0 0),(5,.ptr 2 0)],[.cells [.int .i64 y7.2.2.1,.rs 1],.rows Riii y7.2.2.2.1,.cells [.int .i64 y7.2.2.2.2.1,.rs 3],.rows Riii y7.2.2.2.2.2]⟩) [0,26] (by kernel_rfl) ?_
   exact hj2 _ h
abbrev q2y7:List Pk:=[]
abbrev q2y8:Type:=Unit
abbrev q2y9:Type:=List Diii
def q2ya (r:q2y9):LV×List Ob:=(.agg [.rs 0],[.rows Riii r])
def q2yb (F:q2y8→Option q2y9):Go.Tx.Spec:=⟨39,q2y7,q2y9,F,q2ya⟩
abbrev q2yc:Type:=Unit
def q2yd (_d:Nat):q2yc:=()
def q2ye (C:q2yc):List Go.Tx.Spec:=[]
abbrev q2yf:Type:=Unit
def q2yg (v:q2yf):St:=⟨[],[]⟩
abbrev q2yh:Type:=List Diii
def q2yi (v:q2yh):St:=⟨[(0,.ptr 0 0)],[.cells [.rs 1],.rows Riii v]⟩
def q2yj (C:q2yc) (v:q2yf):Dt q2yh:=(Dt.ret ([]:List Diii))
abbrev q35q {V Y:Type}:=@rg q2yc V Y tysT (fun C=>(orc (q2ye C))) 2
theorem q2yk C v:q35q (regO (qea f39) 0) false [(0,(.box [.own Riii]))] q2yg q2yj q2yi C v:=rgI (by kernel_rfl)
def q2yl (C:q2yc) (v:q2yh):Dt q2yh:=(Dt.ret ([]:List Diii))
theorem q2ym C v:q35q (regO (qea f39) 1) false [(0,(.box [.own Riii]))] q2yi q2yl q2yi C v:=rgI (by kernel_rfl)
def q2yn (d:Nat) (x:q2y8):Option q2y9 :=
 (q2yj (q2yd d) ()).eval fun y0 =>
 (q2yl (q2yd d) y0).eval fun y1 =>
 some y1
theorem q2yo (d:Nat):COK prog (q2yb (q2yn d)):=by
 have hm:prog.follows .mixedOrders=true:=mixed
 have hT:=tys
 have hC0:OrcOK prog (orc (q2ye (q2yd d))):=qe4 (by
  intro S hS
  simp only [q2ye,List.mem_cons,List.not_mem_nil,or_false] at hS
  all_goals first | cases hS | exact hS.elim)
 have hC:OrcOK prog (orc (q2ye (q2yd d))):=hC0
 refine q9t (c:=qea f39) (fn:=f39) hT (by kernel_rfl) (by kernel_rfl) (by decide) fun x r h w0 φ0 Q hend=>?_
 replace h:q2yn d x=some r:=h
 unfold q2yn at h
 show Run prog w0 φ0 2 (qea f39) ⟨[],[]⟩ Q
 refine q344 hm hT hC (q2yk (q2yd d) ()) h fun y0 h=>?_
 refine q344 hm hT hC (q2ym (q2yd d) y0) h fun y1 h=>?_
 refine q9c ?_
 cases h
 exact (hend _ (by kernel_rfl)).2
abbrev q2yp:List Pk:=[]
abbrev q2yq:Type:=Unit
abbrev q2yr:Type:=Bool
def q2ys (r:q2yr):LV×List Ob:=(.bool r,[])
def q2yt (F:q2yq→Option q2yr):Go.Tx.Spec:=⟨7,q2yp,q2yr,F,q2ys⟩
abbrev q2yu:Type:=(q132→Option q133)×(qz1→Option qz2)×(q19m→Option q19n)×(q10g→Option q10h)×(q188→Option q189)×(q1ba→Option q1bb)×(qwp→Option qwq)×(qub→Option quc)×(q2fw→Option q2fx)×(q2kh→Option q2ki)×(q2vy→Option q2vz)×(q2ww→Option q2wx)×(q2ue→Option q2uf)×(q2y8→Option q2y9)×(q2uw→Option q2ux)×(q2vg→Option q2vh)×Unit
def q2yv (d:Nat):q2yu:=(q15h d,q10d d,q1an d,q125 d,q19j d,q1ce d,qyy d,qug d,q2ke d,q2qw d,q2wt d,q2y5 d,q2ut d,q2yn d,q2vd d,q2vv d,())
def q2yw (C:q2yu):List Go.Tx.Spec:=[q135 C.1,qz4 C.2.1,q19p C.2.2.1,q10j C.2.2.2.1,q18b C.2.2.2.2.1,q1bd C.2.2.2.2.2.1,qws C.2.2.2.2.2.2.1,que C.2.2.2.2.2.2.2.1,q2fz C.2.2.2.2.2.2.2.2.1,q2kk C.2.2.2.2.2.2.2.2.2.1,q2w1 C.2.2.2.2.2.2.2.2.2.2.1,q2wz C.2.2.2.2.2.2.2.2.2.2.2.1,q2uh C.2.2.2.2.2.2.2.2.2.2.2.2.1,q2yb C.2.2.2.2.2.2.2.2.2.2.2.2.2.1,q2uz C.2.2.2.2.2.2.2.2.2.2.2.2.2.2.1,q2vj C.2.2.2.2.2.2.2.2.2.2.2.2.2.2.2.1]
abbrev q2yx:Type:=Unit
def q2yy (v:q2yx):St:=⟨[],[]⟩
def q2yz (C:q2yu) (v:q2yx):Dt q2yx:=(Dt.ret ())
abbrev q35r {V Y:Type}:=@rg q2yu V Y tysT (fun C=>(orc (q2yw C))) 460
theorem q2z0 C v:q35r (regO (qea f7) 0) false [] q2yy q2yz q2yy C v:=rgI (by kernel_rfl)
abbrev q2z1:Type:=Int×List Diii
def q2z2 (v:q2z1):St:=⟨[(1,.ptr 0 0)],[.cells [i6 v.1,.fz Riii v.2]]⟩
def q2z3 (C:q2yu) (v:q2yx):Dt q2z1:=(Dt.ret ((-1:Int),([]:List Diii)))
theorem q2z4 C v:q35r (regO (qea f7) 1) false [(1,(.box [.any,.val Riii]))] q2yy q2z3 q2z2 C v:=rgI (by kernel_rfl)
abbrev q2z5:Type:=Int×List Diii×Int×Int×Int
def q2z6 (v:q2z5):St:=⟨[(1,.ptr 0 0),(2,.ptr 1 0)],[.cells [i6 v.1,.fz Riii v.2.1],.cells [i6 v.2.2.1,i6 v.2.2.2.1,i6 v.2.2.2.2]]⟩
def q2z7 (C:q2yu) (v:q2z1):Dt q2z5:=(Dt.ret (v.1,v.2,(3:Int),(-1:Int),(-1:Int)))
theorem q2z8 C v:q35r (regO (qea f7) 2) false [(1,(.box [.any,.val Riii])),(2,.any)] q2z2 q2z7 q2z6 C v:=rgI (by kernel_rfl)
abbrev q2z9:Type:=Int×List Diii×List qkw
def q2za (v:q2z9):St:=⟨[(1,.ptr 0 0),(3,.rs 1)],[.cells [i6 v.1,.fz Riii v.2.1],.rows qkv v.2.2]⟩
def q2zb (C:q2yu) (v:q2z5):Dt q2z9:=(Dt.bnd (C.2.2.2.2.2.2.2.2.2.2.2.1 (((65:Int),()),((0:Int),()),())) fun r1=>(Dt.ret (v.1,v.2.1,([(r1.1,r1.2,()),((0:Int),[],()),((1:Int),([(v.2.2.1,v.2.2.2.1,v.2.2.2.2,())]:List Diii),()),((-2:Int),[],()),((-1:Int),([(v.2.2.1,v.2.2.2.1,v.2.2.2.2,())]:List Diii),()),((0:Int),([((3:Int),(0:Int),(-1:Int),())]:List Diii),()),((0:Int),([((3:Int),(-1:Int),(1:Int),())]:List Diii),()),((0:Int),([(v.2.2.1,v.2.2.2.1,v.2.2.2.2,()),((4:Int),(-1:Int),(-1:Int),())]:List Diii),()),((0:Int),([((3:Int),(1:Int),(-1:Int),()),((4:Int),(-1:Int),(-1:Int),())]:List Diii),()),((0:Int),([((3:Int),(-1:Int),(1:Int),()),((3:Int),(-1:Int),(-1:Int),())]:List Diii),()),((0:Int),([((-1:Int),(-1:Int),(-1:Int),())]:List Diii),()),((0:Int),([((65536:Int),(-1:Int),(-1:Int),())]:List Diii),()),((0:Int),([(v.2.2.1,v.2.2.2.1,v.2.2.2.2,()),((5:Int),(2:Int),(-1:Int),()),((4:Int),(1:Int),(-1:Int),())]:List Diii),()),((0:Int),([((3:Int),(-2:Int),(-1:Int),())]:List Diii),())]:List qkw))))
theorem q2zc C v:q35r (regO (qea f7) 3) true [(1,(.box [.any,.val Riii])),(3,(.own qkv))] q2z6 q2zb q2za C v:=rgI (by kernel_rfl)
abbrev q2zd:Type:=Int×Int×List Diii×List qkw
def q2ze (v:q2zd):St:=⟨[(1,.ptr 0 0),(3,.rs 1),(4,i6 v.1)],[.cells [i6 v.2.1,.fz Riii v.2.2.1],.rows qkv v.2.2.2]⟩
def q2zf (C:q2yu) (v:q2z9):Dt q2zd:=(Dt.ret ((0:Int),v.1,v.2.1,v.2.2))
theorem q2zg C v:q35r (regO (qea f7) 4) false [(1,(.box [.any,.val Riii])),(3,(.own qkv)),(4,.any)] q2za q2zf q2ze C v:=rgI (by kernel_rfl)
abbrev q2zh:Type:=Int×Bool×Int×List Diii×List qkw
def q2zi (v:q2zh):St:=⟨[(1,.ptr 0 0),(3,.rs 1),(4,i6 v.1),(108,.bool v.2.1)],[.cells [i6 v.2.2.1,.fz Riii v.2.2.2.1],.rows qkv v.2.2.2.2]⟩
def q2zj (C:q2yu) (v:q2zd):Dt q2zh:=(Dt.ret (v.1,(decide (v.1<(List.length v.2.2.2:Int))),v.2.1,v.2.2.1,v.2.2.2))
theorem q2zk C v:q35r (regO (qea f7) 5) false [(1,(.box [.any,.val Riii])),(3,(.own qkv)),(4,.any),(108,.any)] q2ze q2zj q2zi C v:=rgI (by kernel_rfl)
abbrev q2zl:Type:=Int×Int×Int×List Diii×List qkw
def q2zm (v:q2zl):St:=⟨[(1,.ptr 0 0),(3,.rs 1),(4,i6 v.1),(5,i6 v.2.1)],[.cells [i6 v.2.2.1,.fz Riii v.2.2.2.1],.rows qkv v.2.2.2.2]⟩
def q2zn (C:q2yu) (v:q2zh):Dt q2zl:=(Dt.ret (v.1,(8:Int),v.2.2.1,v.2.2.2.1,v.2.2.2.2))
theorem q2zo C v:q35r (regO (qea f7) 7) false [(1,(.box [.any,.val Riii])),(3,(.own qkv)),(4,.any),(5,.any)] q2zi q2zn q2zm C v:=rgI (by kernel_rfl)
abbrev q2zp:Type:=Int×Int×Bool×Int×List Diii×List qkw
def q2zq (v:q2zp):St:=⟨[(1,.ptr 0 0),(3,.rs 1),(4,i6 v.1),(5,i6 v.2.1),(112,.bool v.2.2.1)],[.cells [i6 v.2.2.2.1,.fz Riii v.2.2.2.2.1],.rows qkv v.2.2.2.2.2]⟩
def q2zr (C:q2yu) (v:q2zl):Dt q2zp:=(Dt.ret (v.1,v.2.1,(v.1 == (0:Int)),v.2.2.1,v.2.2.2.1,v.2.2.2.2))
theorem q2zs C v:q35r (regO (qea f7) 8) false [(1,(.box [.any,.val Riii])),(3,(.own qkv)),(4,.any),(5,.any),(112,.any)] q2zm q2zr q2zq C v:=rgI (by kernel_rfl)
def q2zt (C:q2yu) (v:q2zp):Dt q2zl:=(Dt.ret (v.1,(4:Int),v.2.2.2.1,v.2.2.2.2.1,v.2.2.2.2.2))
theorem q2zu C v:q35r (regO (qea f7) 9) false [(1,(.box [.any,.val Riii])),(3,(.own qkv)),(4,.any),(5,.any)] q2zq q2zt q2zm C v:=rgI (by kernel_rfl)
abbrev q2zv:Type:=Int×Int×Int×Int×List Diii×List qkw
def q2zw (v:q2zv):St:=⟨[(1,.ptr 0 0),(3,.rs 1),(4,i6 v.1),(5,i6 v.2.1),(7,i6 v.2.2.1)],[.cells [i6 v.2.2.2.1,.fz Riii v.2.2.2.2.1],.rows qkv v.2.2.2.2.2]⟩
def q2zx (C:q2yu) (v:q2zl):Dt q2zv:=(Dt.ite (inB v.1 (List.length v.2.2.2.2)) (Dt.bnd (C.2.1 (((elt qkx v.2.2.2.2 (v.1).toNat).1,(elt qkx v.2.2.2.2 (v.1).toNat).2.1,()),())) fun r1=>(Dt.ret (v.1,v.2.1,r1.2,v.2.2.1,v.2.2.2.1,v.2.2.2.2))) Dt.fail)
theorem q2zy C v:q35r (regO (qea f7) 10) false [(1,(.box [.any,.val Riii])),(3,(.own qkv)),(4,.any),(5,.any),(7,.any)] q2zm q2zx q2zw C v:=rgI (by kernel_rfl)
abbrev q2zz:Type:=Int×Int×Int×Int×Int×List Diii×List qkw
def q300 (v:q2zz):St:=⟨[(1,.ptr 0 0),(3,.rs 1),(4,i6 v.1),(5,i6 v.2.1),(7,i6 v.2.2.1),(9,i6 v.2.2.2.1)],[.cells [i6 v.2.2.2.2.1,.fz Riii v.2.2.2.2.2.1],.rows qkv v.2.2.2.2.2.2]⟩
def q301 (C:q2yu) (v:q2zv):Dt q2zz:=(Dt.ite (inB v.1 (List.length v.2.2.2.2.2)) (Dt.ite (mkB (65:Int) (65:Int)) (Dt.bnd (C.2.2.1 (((elt qkx v.2.2.2.2.2 (v.1).toNat).1,(elt qkx v.2.2.2.2.2 (v.1).toNat).2.1,()),((List.replicate ((65:Int)).toNat ziii),()),((0:Int),(0:Int),()),())) fun r1=>(Dt.ret (v.1,v.2.1,v.2.2.1,r1.2,v.2.2.2.1,v.2.2.2.2.1,v.2.2.2.2.2))) Dt.fail) Dt.fail)
theorem q302 C v:q35r (regO (qea f7) 11) true [(1,(.box [.any,.val Riii])),(3,(.own qkv)),(4,.any),(5,.any),(7,.any),(9,.any)] q2zw q301 q300 C v:=rgI (by kernel_rfl)
abbrev q303:Type:=Int×Int×Int×Int×Int×Int×List Diii×List qkw
def q304 (v:q303):St:=⟨[(1,.ptr 0 0),(3,.rs 1),(4,i6 v.1),(5,i6 v.2.1),(7,i6 v.2.2.1),(9,i6 v.2.2.2.1),(11,i6 v.2.2.2.2.1)],[.cells [i6 v.2.2.2.2.2.1,.fz Riii v.2.2.2.2.2.2.1],.rows qkv v.2.2.2.2.2.2.2]⟩
def q305 (C:q2yu) (v:q2zz):Dt q303:=(Dt.ite (inB v.1 (List.length v.2.2.2.2.2.2)) (Dt.bnd (C.2.2.2.1 (((elt qkx v.2.2.2.2.2.2 (v.1).toNat).1,(elt qkx v.2.2.2.2.2.2 (v.1).toNat).2.1,()),((-1:Int),()),())) fun r1=>(Dt.ret (v.1,v.2.1,v.2.2.1,v.2.2.2.1,r1.2,v.2.2.2.2.1,v.2.2.2.2.2.1,v.2.2.2.2.2.2))) Dt.fail)
theorem q306 C v:q35r (regO (qea f7) 12) false [(1,(.box [.any,.val Riii])),(3,(.own qkv)),(4,.any),(5,.any),(7,.any),(9,.any),(11,.any)] q300 q305 q304 C v:=rgI (by kernel_rfl)
abbrev q307:Type:=Int×Int×Int×Int×Int×Int×Int×List Diii×List qkw
def q308 (v:q307):St:=⟨[(1,.ptr 0 0),(3,.rs 1),(4,i6 v.1),(5,i6 v.2.1),(7,i6 v.2.2.1),(9,i6 v.2.2.2.1),(11,i6 v.2.2.2.2.1),(14,i6 v.2.2.2.2.2.1)],[.cells [i6 v.2.2.2.2.2.2.1,.fz Riii v.2.2.2.2.2.2.2.1],.rows qkv v.2.2.2.2.2.2.2.2]⟩
def q309 (C:q2yu) (v:q303):Dt q307:=(Dt.ite (inB v.1 (List.length v.2.2.2.2.2.2.2)) (Dt.bnd (C.2.2.2.2.2.2.2.2.1 (((elt qkx v.2.2.2.2.2.2.2 (v.1).toNat).1,(elt qkx v.2.2.2.2.2.2.2 (v.1).toNat).2.1,()),((0:Int),()),())) fun r1=>(Dt.ret (v.1,v.2.1,v.2.2.1,v.2.2.2.1,v.2.2.2.2.1,r1.2.2.2.2,v.2.2.2.2.2.1,v.2.2.2.2.2.2.1,v.2.2.2.2.2.2.2))) Dt.fail)
theorem q30a C v:q35r (regO (qea f7) 13) false [(1,(.box [.any,.val Riii])),(3,(.own qkv)),(4,.any),(5,.any),(7,.any),(9,.any),(11,.any),(14,.any)] q304 q309 q308 C v:=rgI (by kernel_rfl)
abbrev q30b:Type:=Int×Int×Int×Int×Int×Int×Int×Int×List Diii×List qkw
def q30c (v:q30b):St:=⟨[(1,.ptr 0 0),(3,.rs 1),(4,i6 v.1),(5,i6 v.2.1),(7,i6 v.2.2.1),(9,i6 v.2.2.2.1),(11,i6 v.2.2.2.2.1),(14,i6 v.2.2.2.2.2.1),(16,i6 v.2.2.2.2.2.2.1)],[.cells [i6 v.2.2.2.2.2.2.2.1,.fz Riii v.2.2.2.2.2.2.2.2.1],.rows qkv v.2.2.2.2.2.2.2.2.2]⟩
def q30d (C:q2yu) (v:q307):Dt q30b:=(Dt.ite (inB v.1 (List.length v.2.2.2.2.2.2.2.2)) (Dt.bnd (C.2.2.2.2.2.2.2.2.2.2.2.2.1 (())) fun r1=>(Dt.bnd (C.2.2.2.2.2.2.2.2.2.1 ((v.2.2.2.2.2.2.1,v.2.2.2.2.2.2.2.1,()),((elt qkx v.2.2.2.2.2.2.2.2 (v.1).toNat).1,(elt qkx v.2.2.2.2.2.2.2.2 (v.1).toNat).2.1,()),(r1,()),((0:Int),(0:Int),()),())) fun r2=>(Dt.ret (v.1,v.2.1,v.2.2.1,v.2.2.2.1,v.2.2.2.2.1,v.2.2.2.2.2.1,r2.2.2,v.2.2.2.2.2.2.1,v.2.2.2.2.2.2.2.1,v.2.2.2.2.2.2.2.2)))) Dt.fail)
theorem q30e C v:q35r (regO (qea f7) 14) true [(1,(.box [.any,.val Riii])),(3,(.own qkv)),(4,.any),(5,.any),(7,.any),(9,.any),(11,.any),(14,.any),(16,.any)] q308 q30d q30c C v:=rgI (by kernel_rfl)
abbrev q30f:Type:=Int×Int×Int×Int×Int×Int×Int×Int×Int×List Diii×List qkw
def q30g (v:q30f):St:=⟨[(1,.ptr 0 0),(3,.rs 1),(4,i6 v.1),(5,i6 v.2.1),(7,i6 v.2.2.1),(9,i6 v.2.2.2.1),(11,i6 v.2.2.2.2.1),(14,i6 v.2.2.2.2.2.1),(16,i6 v.2.2.2.2.2.2.1),(18,i6 v.2.2.2.2.2.2.2.1)],[.cells [i6 v.2.2.2.2.2.2.2.2.1,.fz Riii v.2.2.2.2.2.2.2.2.2.1],.rows qkv v.2.2.2.2.2.2.2.2.2.2]⟩
def q30h (C:q2yu) (v:q30b):Dt q30f:=(Dt.ite (inB v.1 (List.length v.2.2.2.2.2.2.2.2.2)) (Dt.bnd (C.2.2.2.2.1 (((elt qkx v.2.2.2.2.2.2.2.2.2 (v.1).toNat).1,(elt qkx v.2.2.2.2.2.2.2.2.2 (v.1).toNat).2.1,()),(v.2.2.2.2.2.2.2.1,v.2.2.2.2.2.2.2.2.1,()),())) fun r1=>(Dt.ret (v.1,v.2.1,v.2.2.1,v.2.2.2.1,v.2.2.2.2.1,v.2.2.2.2.2.1,v.2.2.2.2.2.2.1,r1.2,v.2.2.2.2.2.2.2.1,v.2.2.2.2.2.2.2.2.1,v.2.2.2.2.2.2.2.2.2))) Dt.fail)
theorem q30i C v:q35r (regO (qea f7) 15) true [(1,(.box [.any,.val Riii])),(3,(.own qkv)),(4,.any),(5,.any),(7,.any),(9,.any),(11,.any),(14,.any),(16,.any),(18,.any)] q30c q30h q30g C v:=rgI (by kernel_rfl)
abbrev q30j:Type:=Int×Int×Int×Int×Int×Int×Int×Int×Int×Int×List Diii×List qkw
def q30k (v:q30j):St:=⟨[(1,.ptr 0 0),(3,.rs 1),(4,i6 v.1),(5,i6 v.2.1),(7,i6 v.2.2.1),(9,i6 v.2.2.2.1),(11,i6 v.2.2.2.2.1),(14,i6 v.2.2.2.2.2.1),(16,i6 v.2.2.2.2.2.2.1),(18,i6 v.2.2.2.2.2.2.2.1),(20,i6 v.2.2.2.2.2.2.2.2.1)],[.cells [i6 v.2.2.2.2.2.2.2.2.2.1,.fz Riii v.2.2.2.2.2.2.2.2.2.2.1],.rows qkv v.2.2.2.2.2.2.2.2.2.2.2]⟩
def q30l (C:q2yu) (v:q30f):Dt q30j:=(Dt.ite (inB v.1 (List.length v.2.2.2.2.2.2.2.2.2.2)) (Dt.bnd (C.2.2.2.2.1 ((v.2.2.2.2.2.2.2.2.1,v.2.2.2.2.2.2.2.2.2.1,()),((elt qkx v.2.2.2.2.2.2.2.2.2.2 (v.1).toNat).1,(elt qkx v.2.2.2.2.2.2.2.2.2.2 (v.1).toNat).2.1,()),())) fun r1=>(Dt.ret (v.1,v.2.1,v.2.2.1,v.2.2.2.1,v.2.2.2.2.1,v.2.2.2.2.2.1,v.2.2.2.2.2.2.1,v.2.2.2.2.2.2.2.1,r1.2,v.2.2.2.2.2.2.2.2.1,v.2.2.2.2.2.2.2.2.2.1,v.2.2.2.2.2.2.2.2.2.2))) Dt.fail)
theorem q30m C v:q35r (regO (qea f7) 16) true [(1,(.box [.any,.val Riii])),(3,(.own qkv)),(4,.any),(5,.any),(7,.any),(9,.any),(11,.any),(14,.any),(16,.any),(18,.any),(20,.any)] q30g q30l q30k C v:=rgI (by kernel_rfl)
abbrev q30n:Type:=Int×Bool×Int×List Diii×List qkw
def q30o (v:q30n):St:=⟨[(1,.ptr 0 0),(3,.rs 1),(4,i6 v.1),(219,.bool v.2.1)],[.cells [i6 v.2.2.1,.fz Riii v.2.2.2.1],.rows qkv v.2.2.2.2]⟩
def q30p (C:q2yu) (v:q30j):Dt q30n:=(Dt.ite (inB v.1 (List.length v.2.2.2.2.2.2.2.2.2.2.2)) (Dt.bnd (C.2.2.2.2.2.2.1 (((elt qkx v.2.2.2.2.2.2.2.2.2.2.2 (v.1).toNat).1,(elt qkx v.2.2.2.2.2.2.2.2.2.2.2 (v.1).toNat).2.1,()),())) fun r1=>(Dt.ite (r1 != v.2.1) (Dt.ret (v.1,true,v.2.2.2.2.2.2.2.2.2.1,v.2.2.2.2.2.2.2.2.2.2.1,v.2.2.2.2.2.2.2.2.2.2.2)) (Dt.ite (v.2.2.1 != v.2.1) (Dt.ret (v.1,true,v.2.2.2.2.2.2.2.2.2.1,v.2.2.2.2.2.2.2.2.2.2.1,v.2.2.2.2.2.2.2.2.2.2.2)) (Dt.ite (v.2.2.2.1 != v.2.1) (Dt.ret (v.1,true,v.2.2.2.2.2.2.2.2.2.1,v.2.2.2.2.2.2.2.2.2.2.1,v.2.2.2.2.2.2.2.2.2.2.2)) (Dt.ite (v.2.2.2.2.1 != v.2.1) (Dt.ret (v.1,true,v.2.2.2.2.2.2.2.2.2.1,v.2.2.2.2.2.2.2.2.2.2.1,v.2.2.2.2.2.2.2.2.2.2.2)) (Dt.ite (v.2.2.2.2.2.1 != v.2.1) (Dt.ret (v.1,true,v.2.2.2.2.2.2.2.2.2.1,v.2.2.2.2.2.2.2.2.2.2.1,v.2.2.2.2.2.2.2.2.2.2.2)) (Dt.ite (v.2.2.2.2.2.2.1 != v.2.1) (Dt.ret (v.1,true,v.2.2.2.2.2.2.2.2.2.1,v.2.2.2.2.2.2.2.2.2.2.1,v.2.2.2.2.2.2.2.2.2.2.2)) (Dt.ite (v.2.2.2.2.2.2.2.1 != v.2.1) (Dt.ret (v.1,true,v.2.2.2.2.2.2.2.2.2.1,v.2.2.2.2.2.2.2.2.2.2.1,v.2.2.2.2.2.2.2.2.2.2.2)) (Dt.ret (v.1,(v.2.2.2.2.2.2.2.2.1 != v.2.1),v.2.2.2.2.2.2.2.2.2.1,v.2.2.2.2.2.2.2.2.2.2.1,v.2.2.2.2.2.2.2.2.2.2.2)))))))))) Dt.fail)
theorem q30q C v:q35r (regO (qea f7) 17) false [(1,(.box [.any,.val Riii])),(3,(.own qkv)),(4,.any),(219,.any)] q30k q30p q30o C v:=rgI (by kernel_rfl)
abbrev q30r:Type:=Bool
def q30s (v:q30r):St:=⟨[(0,.bool v)],[]⟩
def q30t (C:q2yu) (v:q30n):Dt q30r:=(Dt.ret false)
theorem q30u C v:q35r (regO (qea f7) 18) false [(0,.any)] q30o q30t q30s C v:=rgI (by kernel_rfl)
def q30v (C:q2yu) (v:q30n):Dt q2zd:=(Dt.ret ((IntKind.wrap .i64 (v.1+(1:Int))),v.2.2.1,v.2.2.2.1,v.2.2.2.2))
theorem q30w C v:q35r (regO (qea f7) 6) false [(1,(.box [.any,.val Riii])),(3,(.own qkv)),(4,.any)] q30o q30v q2ze C v:=rgI (by kernel_rfl)
def q30x  (d:Nat) (self1:(Int×Int×List Diii×List qkw)→Option q2yr) (z:Int×Int×Int×List Diii×List qkw):Option (q2yr) :=
 (q2zx (q2yv d) z).eval fun y10 =>
 (q301 (q2yv d) y10).eval fun y11 =>
 (q305 (q2yv d) y11).eval fun y12 =>
 (q309 (q2yv d) y12).eval fun y13 =>
 (q30d (q2yv d) y13).eval fun y14 =>
 (q30h (q2yv d) y14).eval fun y15 =>
 (q30l (q2yv d) y15).eval fun y16 =>
 (q30p (q2yv d) y16).eval fun y17 =>
 bif y17.2.1 then ((q30t (q2yv d) y17).eval fun y18 =>
 some y18) else ((q30v (q2yv d) y17).eval fun y6 =>
 self1 y6)
abbrev q30y:Type:=Int×List Diii×Int×List Diii
def q30z (v:q30y):St:=⟨[(1,.ptr 0 0),(21,.ptr 1 0)],[.cells [i6 v.1,.fz Riii v.2.1],.cells [i6 v.2.2.1,.rs 2],.rows Riii v.2.2.2]⟩
def q310 (C:q2yu) (v:q2zh):Dt q30y:=(Dt.ret (v.2.2.1,v.2.2.2.1,(2:Int),([((5:Int),(-1:Int),(-1:Int),()),((2:Int),(-1:Int),(0:Int),()),((1:Int),(-1:Int),(1:Int),())]:List Diii)))
theorem q311 C v:q35r (regO (qea f7) 19) false [(1,(.box [.any,.val Riii])),(21,(.box [.any,.own Riii]))] q2zi q310 q30z C v:=rgI (by kernel_rfl)
abbrev q312:Type:=Int×List Diii×Int×List Diii×List Diii
def q313 (v:q312):St:=⟨[(1,.ptr 0 0),(21,.ptr 1 0),(22,.ptr 3 0)],[.cells [i6 v.1,.fz Riii v.2.1],.cells [i6 v.2.2.1,.rs 2],.rows Riii v.2.2.2.1,.cells [.rs 4],.rows Riii v.2.2.2.2]⟩
def q314 (C:q2yu) (v:q30y):Dt q312:=(Dt.ite (mkB (65:Int) (65:Int)) (Dt.ret (v.1,v.2.1,v.2.2.1,v.2.2.2,(List.replicate ((65:Int)).toNat ziii))) Dt.fail)
theorem q315 C v:q35r (regO (qea f7) 20) false [(1,(.box [.any,.val Riii])),(21,(.box [.any,.own Riii])),(22,(.box [.own Riii]))] q30z q314 q313 C v:=rgI (by kernel_rfl)
abbrev q316:Type:=Int×Int×List Diii×Int×List Diii×List Diii
def q317 (v:q316):St:=⟨[(1,.ptr 0 0),(21,.ptr 1 0),(22,.ptr 3 0),(24,i6 v.1)],[.cells [i6 v.2.1,.fz Riii v.2.2.1],.cells [i6 v.2.2.2.1,.rs 2],.rows Riii v.2.2.2.2.1,.cells [.rs 4],.rows Riii v.2.2.2.2.2]⟩
def q318 (C:q2yu) (v:q312):Dt q316:=(Dt.bnd (C.1 ((v.2.2.2.2,()),((0:Int),(0:Int),()),())) fun r1=>(Dt.ret (r1.2.2,v.1,v.2.1,v.2.2.1,v.2.2.2.1,v.2.2.2.2)))
theorem q319 C v:q35r (regO (qea f7) 21) false [(1,(.box [.any,.val Riii])),(21,(.box [.any,.own Riii])),(22,(.box [.own Riii])),(24,.any)] q313 q318 q317 C v:=rgI (by kernel_rfl)
abbrev q31a:Type:=Int×Int×Int×List Diii×Int×List Diii×List Diii×Int×List Diii
def q31b (v:q31a):St:=⟨[(1,.ptr 0 0),(21,.ptr 1 0),(22,.ptr 3 0),(24,i6 v.1),(25,.ptr 5 0),(26,i6 v.2.1)],[.cells [i6 v.2.2.1,.fz Riii v.2.2.2.1],.cells [i6 v.2.2.2.2.1,.rs 2],.rows Riii v.2.2.2.2.2.1,.cells [.rs 4],.rows Riii v.2.2.2.2.2.2.1,.cells [i6 v.2.2.2.2.2.2.2.1,.rs 6],.rows Riii v.2.2.2.2.2.2.2.2]⟩
def q31c (C:q2yu) (v:q316):Dt q31a:=(Dt.bnd (C.2.2.2.2.2.2.2.2.2.2.2.2.2.1 (())) fun r1=>(Dt.bnd (C.2.2.2.2.2.2.2.2.2.2.2.2.2.2.1 (((0:Int),()),())) fun r2=>(Dt.bnd (C.1 ((r1,()),(r2.1,r2.2,()),())) fun r3=>(Dt.ret (v.1,r3.2.2,v.2.1,v.2.2.1,v.2.2.2.1,v.2.2.2.2.1,v.2.2.2.2.2,r3.1,r3.2.1)))))
theorem q31d C v:q35r (regO (qea f7) 22) false [(1,(.box [.any,.val Riii])),(21,(.box [.any,.own Riii])),(22,(.box [.own Riii])),(24,.any),(25,(.box [.any,.own Riii])),(26,.any)] q317 q31c q31b C v:=rgI (by kernel_rfl)
abbrev q31e:Type:=Int×Int×Int×Int×List Diii×Int×List Diii×List Diii×Int×List Diii
def q31f (v:q31e):St:=⟨[(1,.ptr 0 0),(21,.ptr 1 0),(22,.ptr 3 0),(24,i6 v.1),(25,.ptr 5 0),(26,i6 v.2.1),(28,i6 v.2.2.1)],[.cells [i6 v.2.2.2.1,.fz Riii v.2.2.2.2.1],.cells [i6 v.2.2.2.2.2.1,.rs 2],.rows Riii v.2.2.2.2.2.2.1,.cells [.rs 4],.rows Riii v.2.2.2.2.2.2.2.1,.cells [i6 v.2.2.2.2.2.2.2.2.1,.rs 6],.rows Riii v.2.2.2.2.2.2.2.2.2]⟩
def q31g (C:q2yu) (v:q31a):Dt q31e:=(Dt.bnd (C.2.2.2.2.2.2.2.2.2.2.2.2.1 (())) fun r1=>(Dt.bnd (C.1 ((r1,()),((0:Int),(0:Int),()),())) fun r2=>(Dt.ret (v.1,v.2.1,r2.2.2,v.2.2.1,v.2.2.2.1,v.2.2.2.2.1,v.2.2.2.2.2.1,v.2.2.2.2.2.2.1,v.2.2.2.2.2.2.2.1,v.2.2.2.2.2.2.2.2))))
theorem q31h C v:q35r (regO (qea f7) 23) false [(1,(.box [.any,.val Riii])),(21,(.box [.any,.own Riii])),(22,(.box [.own Riii])),(24,.any),(25,(.box [.any,.own Riii])),(26,.any),(28,.any)] q31b q31g q31f C v:=rgI (by kernel_rfl)
abbrev q31i:Type:=Int×Int×Int×Bool×Int×Int×List Diii×Int×List Diii×List Diii×Int×List Diii
def q31j (v:q31i):St:=⟨[(1,.ptr 0 0),(21,.ptr 1 0),(22,.ptr 3 0),(24,i6 v.1),(25,.ptr 5 0),(26,i6 v.2.1),(28,i6 v.2.2.1),(29,.bool v.2.2.2.1),(30,i6 v.2.2.2.2.1)],[.cells [i6 v.2.2.2.2.2.1,.fz Riii v.2.2.2.2.2.2.1],.cells [i6 v.2.2.2.2.2.2.2.1,.rs 2],.rows Riii v.2.2.2.2.2.2.2.2.1,.cells [.rs 4],.rows Riii v.2.2.2.2.2.2.2.2.2.1,.cells [i6 v.2.2.2.2.2.2.2.2.2.2.1,.rs 6],.rows Riii v.2.2.2.2.2.2.2.2.2.2.2]⟩
def q31k (C:q2yu) (v:q31e):Dt q31i:=(Dt.bnd (C.2.2.2.2.2.2.2.2.2.2.2.2.2.2.2.1 (())) fun r1=>(Dt.bnd (C.2.2.2.2.1 ((v.2.2.2.2.2.1,v.2.2.2.2.2.2.1,()),(r1.1,r1.2,()),())) fun r2=>(Dt.ret (v.1,v.2.1,v.2.2.1,r2.1,r2.2,v.2.2.2.1,v.2.2.2.2.1,v.2.2.2.2.2.1,v.2.2.2.2.2.2.1,v.2.2.2.2.2.2.2.1,v.2.2.2.2.2.2.2.2.1,v.2.2.2.2.2.2.2.2.2))))
theorem q31l C v:q35r (regO (qea f7) 24) true [(1,(.box [.any,.val Riii])),(21,(.box [.any,.own Riii])),(22,(.box [.own Riii])),(24,.any),(25,(.box [.any,.own Riii])),(26,.any),(28,.any),(29,.any),(30,.any)] q31f q31k q31j C v:=rgI (by kernel_rfl)
abbrev q31m:Type:=Int×Int×Int×Bool×Int×Bool×Int×Int×List Diii×Int×List Diii×List Diii×Int×List Diii
def q31n (v:q31m):St:=⟨[(1,.ptr 0 0),(21,.ptr 1 0),(22,.ptr 3 0),(24,i6 v.1),(25,.ptr 5 0),(26,i6 v.2.1),(28,i6 v.2.2.1),(29,.bool v.2.2.2.1),(30,i6 v.2.2.2.2.1),(31,.bool v.2.2.2.2.2.1),(32,i6 v.2.2.2.2.2.2.1)],[.cells [i6 v.2.2.2.2.2.2.2.1,.fz Riii v.2.2.2.2.2.2.2.2.1],.cells [i6 v.2.2.2.2.2.2.2.2.2.1,.rs 2],.rows Riii v.2.2.2.2.2.2.2.2.2.2.1,.cells [.rs 4],.rows Riii v.2.2.2.2.2.2.2.2.2.2.2.1,.cells [i6 v.2.2.2.2.2.2.2.2.2.2.2.2.1,.rs 6],.rows Riii v.2.2.2.2.2.2.2.2.2.2.2.2.2]⟩
def q31o (C:q2yu) (v:q31i):Dt q31m:=(Dt.bnd (C.2.2.2.2.2.2.2.2.2.2.2.2.1 (())) fun r1=>(Dt.bnd (C.2.2.2.2.2.2.2.2.2.2.2.2.2.2.1 (((2:Int),()),())) fun r2=>(Dt.bnd (C.2.2.1 ((v.2.2.2.2.2.2.2.1,v.2.2.2.2.2.2.2.2.1,()),(r1,()),(r2.1,r2.2,()),())) fun r3=>(Dt.ret (v.1,v.2.1,v.2.2.1,v.2.2.2.1,v.2.2.2.2.1,r3.1,r3.2,v.2.2.2.2.2.1,v.2.2.2.2.2.2.1,v.2.2.2.2.2.2.2.1,v.2.2.2.2.2.2.2.2.1,v.2.2.2.2.2.2.2.2.2.1,v.2.2.2.2.2.2.2.2.2.2.1,v.2.2.2.2.2.2.2.2.2.2.2)))))
theorem q31p C v:q35r (regO (qea f7) 25) true [(1,(.box [.any,.val Riii])),(21,(.box [.any,.own Riii])),(22,(.box [.own Riii])),(24,.any),(25,(.box [.any,.own Riii])),(26,.any),(28,.any),(29,.any),(30,.any),(31,.any),(32,.any)] q31j q31o q31n C v:=rgI (by kernel_rfl)
abbrev q31q:Type:=Int×Int×Int×Bool×Int×Bool×Int×Bool×Int×Int×List Diii×Int×List Diii×List Diii×Int×List Diii
def q31r (v:q31q):St:=⟨[(1,.ptr 0 0),(21,.ptr 1 0),(22,.ptr 3 0),(24,i6 v.1),(25,.ptr 5 0),(26,i6 v.2.1),(28,i6 v.2.2.1),(29,.bool v.2.2.2.1),(30,i6 v.2.2.2.2.1),(31,.bool v.2.2.2.2.2.1),(32,i6 v.2.2.2.2.2.2.1),(33,.bool v.2.2.2.2.2.2.2.1),(34,i6 v.2.2.2.2.2.2.2.2.1)],[.cells [i6 v.2.2.2.2.2.2.2.2.2.1,.fz Riii v.2.2.2.2.2.2.2.2.2.2.1],.cells [i6 v.2.2.2.2.2.2.2.2.2.2.2.1,.rs 2],.rows Riii v.2.2.2.2.2.2.2.2.2.2.2.2.1,.cells [.rs 4],.rows Riii v.2.2.2.2.2.2.2.2.2.2.2.2.2.1,.cells [i6 v.2.2.2.2.2.2.2.2.2.2.2.2.2.2.1,.rs 6],.rows Riii v.2.2.2.2.2.2.2.2.2.2.2.2.2.2.2]⟩
def q31s (C:q2yu) (v:q31m):Dt q31q:=(Dt.bnd (C.2.2.2.2.2.2.2.2.2.2.2.2.1 (())) fun r1=>(Dt.bnd (C.2.2.2.2.2.2.2.2.2.2.2.2.2.2.1 (((0:Int),()),())) fun r2=>(Dt.bnd (C.2.2.1 ((v.2.2.2.2.2.2.2.2.2.1,v.2.2.2.2.2.2.2.2.2.2.1,()),(r1,()),(r2.1,r2.2,()),())) fun r3=>(Dt.ret (v.1,v.2.1,v.2.2.1,v.2.2.2.1,v.2.2.2.2.1,v.2.2.2.2.2.1,v.2.2.2.2.2.2.1,r3.1,r3.2,v.2.2.2.2.2.2.2.1,v.2.2.2.2.2.2.2.2.1,v.2.2.2.2.2.2.2.2.2.1,v.2.2.2.2.2.2.2.2.2.2.1,v.2.2.2.2.2.2.2.2.2.2.2.1,v.2.2.2.2.2.2.2.2.2.2.2.2.1,v.2.2.2.2.2.2.2.2.2.2.2.2.2)))))
theorem q31t C v:q35r (regO (qea f7) 26) true [(1,(.box [.any,.val Riii])),(21,(.box [.any,.own Riii])),(22,(.box [.own Riii])),(24,.any),(25,(.box [.any,.own Riii])),(26,.any),(28,.any),(29,.any),(30,.any),(31,.any),(32,.any),(33,.any),(34,.any)] q31n q31s q31r C v:=rgI (by kernel_rfl)
abbrev q31u:Type:=Int×Int×Int×Bool×Int×Bool×Int×Bool×Int×Int×Int×List Diii×Int×List Diii×List Diii×Int×List Diii
def q31v (v:q31u):St:=⟨[(1,.ptr 0 0),(21,.ptr 1 0),(22,.ptr 3 0),(24,i6 v.1),(25,.ptr 5 0),(26,i6 v.2.1),(28,i6 v.2.2.1),(29,.bool v.2.2.2.1),(30,i6 v.2.2.2.2.1),(31,.bool v.2.2.2.2.2.1),(32,i6 v.2.2.2.2.2.2.1),(33,.bool v.2.2.2.2.2.2.2.1),(34,i6 v.2.2.2.2.2.2.2.2.1),(36,i6 v.2.2.2.2.2.2.2.2.2.1)],[.cells [i6 v.2.2.2.2.2.2.2.2.2.2.1,.fz Riii v.2.2.2.2.2.2.2.2.2.2.2.1],.cells [i6 v.2.2.2.2.2.2.2.2.2.2.2.2.1,.rs 2],.rows Riii v.2.2.2.2.2.2.2.2.2.2.2.2.2.1,.cells [.rs 4],.rows Riii v.2.2.2.2.2.2.2.2.2.2.2.2.2.2.1,.cells [i6 v.2.2.2.2.2.2.2.2.2.2.2.2.2.2.2.1,.rs 6],.rows Riii v.2.2.2.2.2.2.2.2.2.2.2.2.2.2.2.2]⟩
def q31w (C:q2yu) (v:q31q):Dt q31u:=(Dt.bnd (C.2.2.2.2.2.2.2.2.2.2.2.2.1 (())) fun r1=>(Dt.bnd (C.2.2.1 ((v.2.2.2.2.2.2.2.2.2.2.2.1,v.2.2.2.2.2.2.2.2.2.2.2.2.1,()),(r1,()),((0:Int),(0:Int),()),())) fun r2=>(Dt.ret (v.1,v.2.1,v.2.2.1,v.2.2.2.1,v.2.2.2.2.1,v.2.2.2.2.2.1,v.2.2.2.2.2.2.1,v.2.2.2.2.2.2.2.1,v.2.2.2.2.2.2.2.2.1,r2.2,v.2.2.2.2.2.2.2.2.2.1,v.2.2.2.2.2.2.2.2.2.2.1,v.2.2.2.2.2.2.2.2.2.2.2.1,v.2.2.2.2.2.2.2.2.2.2.2.2.1,v.2.2.2.2.2.2.2.2.2.2.2.2.2.1,v.2.2.2.2.2.2.2.2.2.2.2.2.2.2.1,v.2.2.2.2.2.2.2.2.2.2.2.2.2.2.2))))
theorem q31x C v:q35r (regO (qea f7) 27) true [(1,(.box [.any,.val Riii])),(21,(.box [.any,.own Riii])),(22,(.box [.own Riii])),(24,.any),(25,(.box [.any,.own Riii])),(26,.any),(28,.any),(29,.any),(30,.any),(31,.any),(32,.any),(33,.any),(34,.any),(36,.any)] q31r q31w q31v C v:=rgI (by kernel_rfl)
abbrev q31y:Type:=Int×Int×Int×Bool×Int×Bool×Int×Bool×Int×Int×Int×Int×List Diii×Int×List Diii×List Diii×Int×List Diii
def q31z (v:q31y):St:=⟨[(1,.ptr 0 0),(21,.ptr 1 0),(22,.ptr 3 0),(24,i6 v.1),(25,.ptr 5 0),(26,i6 v.2.1),(28,i6 v.2.2.1),(29,.bool v.2.2.2.1),(30,i6 v.2.2.2.2.1),(31,.bool v.2.2.2.2.2.1),(32,i6 v.2.2.2.2.2.2.1),(33,.bool v.2.2.2.2.2.2.2.1),(34,i6 v.2.2.2.2.2.2.2.2.1),(36,i6 v.2.2.2.2.2.2.2.2.2.1),(39,i6 v.2.2.2.2.2.2.2.2.2.2.1)],[.cells [i6 v.2.2.2.2.2.2.2.2.2.2.2.1,.fz Riii v.2.2.2.2.2.2.2.2.2.2.2.2.1],.cells [i6 v.2.2.2.2.2.2.2.2.2.2.2.2.2.1,.rs 2],.rows Riii v.2.2.2.2.2.2.2.2.2.2.2.2.2.2.1,.cells [.rs 4],.rows Riii v.2.2.2.2.2.2.2.2.2.2.2.2.2.2.2.1,.cells [i6 v.2.2.2.2.2.2.2.2.2.2.2.2.2.2.2.2.1,.rs 6],.rows Riii v.2.2.2.2.2.2.2.2.2.2.2.2.2.2.2.2.2]⟩
def q320 (C:q2yu) (v:q31u):Dt q31y:=(Dt.bnd (C.2.2.2.2.2.2.2.2.1 ((v.2.2.2.2.2.2.2.2.2.2.2.2.1,v.2.2.2.2.2.2.2.2.2.2.2.2.2.1,()),((2:Int),()),())) fun r1=>(Dt.ret (v.1,v.2.1,v.2.2.1,v.2.2.2.1,v.2.2.2.2.1,v.2.2.2.2.2.1,v.2.2.2.2.2.2.1,v.2.2.2.2.2.2.2.1,v.2.2.2.2.2.2.2.2.1,v.2.2.2.2.2.2.2.2.2.1,r1.2.2.2.2,v.2.2.2.2.2.2.2.2.2.2.1,v.2.2.2.2.2.2.2.2.2.2.2.1,v.2.2.2.2.2.2.2.2.2.2.2.2.1,v.2.2.2.2.2.2.2.2.2.2.2.2.2.1,v.2.2.2.2.2.2.2.2.2.2.2.2.2.2.1,v.2.2.2.2.2.2.2.2.2.2.2.2.2.2.2.1,v.2.2.2.2.2.2.2.2.2.2.2.2.2.2.2.2)))
theorem q321 C v:q35r (regO (qea f7) 28) false [(1,(.box [.any,.val Riii])),(21,(.box [.any,.own Riii])),(22,(.box [.own Riii])),(24,.any),(25,(.box [.any,.own Riii])),(26,.any),(28,.any),(29,.any),(30,.any),(31,.any),(32,.any),(33,.any),(34,.any),(36,.any),(39,.any)] q31v q320 q31z C v:=rgI (by kernel_rfl)
abbrev q322:Type:=Int×Int×Int×Bool×Int×Bool×Int×Bool×Int×Int×Int×Int×Int×List Diii×Int×List Diii×List Diii×Int×List Diii
def q323 (v:q322):St:=⟨[(1,.ptr 0 0),(21,.ptr 1 0),(22,.ptr 3 0),(24,i6 v.1),(25,.ptr 5 0),(26,i6 v.2.1),(28,i6 v.2.2.1),(29,.bool v.2.2.2.1),(30,i6 v.2.2.2.2.1),(31,.bool v.2.2.2.2.2.1),(32,i6 v.2.2.2.2.2.2.1),(33,.bool v.2.2.2.2.2.2.2.1),(34,i6 v.2.2.2.2.2.2.2.2.1),(36,i6 v.2.2.2.2.2.2.2.2.2.1),(39,i6 v.2.2.2.2.2.2.2.2.2.2.1),(41,i6 v.2.2.2.2.2.2.2.2.2.2.2.1)],[.cells [i6 v.2.2.2.2.2.2.2.2.2.2.2.2.1,.fz Riii v.2.2.2.2.2.2.2.2.2.2.2.2.2.1],.cells [i6 v.2.2.2.2.2.2.2.2.2.2.2.2.2.2.1,.rs 2],.rows Riii v.2.2.2.2.2.2.2.2.2.2.2.2.2.2.2.1,.cells [.rs 4],.rows Riii v.2.2.2.2.2.2.2.2.2.2.2.2.2.2.2.2.1,.cells [i6 v.2.2.2.2.2.2.2.2.2.2.2.2.2.2.2.2.2.1,.rs 6],.rows Riii v.2.2.2.2.2.2.2.2.2.2.2.2.2.2.2.2.2.2]⟩
def q324 (C:q2yu) (v:q31y):Dt q322:=(Dt.bnd (C.2.2.2.2.2.2.2.2.2.2.2.1 (((1:Int),()),((9:Int),()),())) fun r1=>(Dt.bnd (C.2.2.2.2.2.2.2.2.2.1 ((v.2.2.2.2.2.2.2.2.2.2.2.2.2.1,v.2.2.2.2.2.2.2.2.2.2.2.2.2.2.1,()),(r1.1,r1.2,()),(v.2.2.2.2.2.2.2.2.2.2.2.2.2.2.2.1,()),((0:Int),(0:Int),()),())) fun r2=>(Dt.ret (v.1,v.2.1,v.2.2.1,v.2.2.2.1,v.2.2.2.2.1,v.2.2.2.2.2.1,v.2.2.2.2.2.2.1,v.2.2.2.2.2.2.2.1,v.2.2.2.2.2.2.2.2.1,v.2.2.2.2.2.2.2.2.2.1,v.2.2.2.2.2.2.2.2.2.2.1,r2.2.2,v.2.2.2.2.2.2.2.2.2.2.2.1,v.2.2.2.2.2.2.2.2.2.2.2.2.1,v.2.2.2.2.2.2.2.2.2.2.2.2.2.1,v.2.2.2.2.2.2.2.2.2.2.2.2.2.2.1,v.2.2.2.2.2.2.2.2.2.2.2.2.2.2.2.1,v.2.2.2.2.2.2.2.2.2.2.2.2.2.2.2.2.1,v.2.2.2.2.2.2.2.2.2.2.2.2.2.2.2.2.2))))
theorem q325 C v:q35r (regO (qea f7) 29) true [(1,(.box [.any,.val Riii])),(21,(.box [.any,.own Riii])),(22,(.box [.own Riii])),(24,.any),(25,(.box [.any,.own Riii])),(26,.any),(28,.any),(29,.any),(30,.any),(31,.any),(32,.any),(33,.any),(34,.any),(36,.any),(39,.any),(41,.any)] q31z q324 q323 C v:=rgI (by kernel_rfl)
abbrev q326:Type:=Int×Int×Int×Bool×Int×Bool×Int×Bool×Int×Int×Int×Int×Int×Int×List Diii×Int×List Diii×Int×List Diii
def q327 (v:q326):St:=⟨[(1,.ptr 0 0),(21,.ptr 1 0),(24,i6 v.1),(25,.ptr 3 0),(26,i6 v.2.1),(28,i6 v.2.2.1),(29,.bool v.2.2.2.1),(30,i6 v.2.2.2.2.1),(31,.bool v.2.2.2.2.2.1),(32,i6 v.2.2.2.2.2.2.1),(33,.bool v.2.2.2.2.2.2.2.1),(34,i6 v.2.2.2.2.2.2.2.2.1),(36,i6 v.2.2.2.2.2.2.2.2.2.1),(39,i6 v.2.2.2.2.2.2.2.2.2.2.1),(41,i6 v.2.2.2.2.2.2.2.2.2.2.2.1),(43,i6 v.2.2.2.2.2.2.2.2.2.2.2.2.1)],[.cells [i6 v.2.2.2.2.2.2.2.2.2.2.2.2.2.1,.fz Riii v.2.2.2.2.2.2.2.2.2.2.2.2.2.2.1],.cells [i6 v.2.2.2.2.2.2.2.2.2.2.2.2.2.2.2.1,.rs 2],.rows Riii v.2.2.2.2.2.2.2.2.2.2.2.2.2.2.2.2.1,.cells [i6 v.2.2.2.2.2.2.2.2.2.2.2.2.2.2.2.2.2.1,.rs 4],.rows Riii v.2.2.2.2.2.2.2.2.2.2.2.2.2.2.2.2.2.2]⟩
def q328 (C:q2yu) (v:q322):Dt q326:=(Dt.bnd (C.2.2.2.2.2.2.2.2.2.2.2.1 (((1:Int),()),((1:Int),()),())) fun r1=>(Dt.bnd (C.2.2.2.2.2.2.2.2.2.2.2.1 (((1:Int),()),((2:Int),()),())) fun r2=>(Dt.bnd (C.2.2.2.2.2.2.2.2.2.1 ((r1.1,r1.2,()),(r2.1,r2.2,()),(v.2.2.2.2.2.2.2.2.2.2.2.2.2.2.2.2.1,()),((0:Int),(0:Int),()),())) fun r3=>(Dt.ret (v.1,v.2.1,v.2.2.1,v.2.2.2.1,v.2.2.2.2.1,v.2.2.2.2.2.1,v.2.2.2.2.2.2.1,v.2.2.2.2.2.2.2.1,v.2.2.2.2.2.2.2.2.1,v.2.2.2.2.2.2.2.2.2.1,v.2.2.2.2.2.2.2.2.2.2.1,v.2.2.2.2.2.2.2.2.2.2.2.1,r3.2.2,v.2.2.2.2.2.2.2.2.2.2.2.2.1,v.2.2.2.2.2.2.2.2.2.2.2.2.2.1,v.2.2.2.2.2.2.2.2.2.2.2.2.2.2.1,v.2.2.2.2.2.2.2.2.2.2.2.2.2.2.2.1,v.2.2.2.2.2.2.2.2.2.2.2.2.2.2.2.2.2.1,v.2.2.2.2.2.2.2.2.2.2.2.2.2.2.2.2.2.2)))))
theorem q329 C v:q35r (regO (qea f7) 30) true [(1,(.box [.any,.val Riii])),(21,(.box [.any,.own Riii])),(24,.any),(25,(.box [.any,.own Riii])),(26,.any),(28,.any),(29,.any),(30,.any),(31,.any),(32,.any),(33,.any),(34,.any),(36,.any),(39,.any),(41,.any),(43,.any)] q323 q328 q327 C v:=rgI (by kernel_rfl)
abbrev q32a:Type:=Int×Int×Int×Bool×Int×Bool×Int×Bool×Int×Int×Int×Int×Int×Int×Int×List Diii×Int×List Diii×Int×List Diii
def q32b (v:q32a):St:=⟨[(1,.ptr 0 0),(21,.ptr 1 0),(24,i6 v.1),(25,.ptr 3 0),(26,i6 v.2.1),(28,i6 v.2.2.1),(29,.bool v.2.2.2.1),(30,i6 v.2.2.2.2.1),(31,.bool v.2.2.2.2.2.1),(32,i6 v.2.2.2.2.2.2.1),(33,.bool v.2.2.2.2.2.2.2.1),(34,i6 v.2.2.2.2.2.2.2.2.1),(36,i6 v.2.2.2.2.2.2.2.2.2.1),(39,i6 v.2.2.2.2.2.2.2.2.2.2.1),(41,i6 v.2.2.2.2.2.2.2.2.2.2.2.1),(43,i6 v.2.2.2.2.2.2.2.2.2.2.2.2.1),(45,i6 v.2.2.2.2.2.2.2.2.2.2.2.2.2.1)],[.cells [i6 v.2.2.2.2.2.2.2.2.2.2.2.2.2.2.1,.fz Riii v.2.2.2.2.2.2.2.2.2.2.2.2.2.2.2.1],.cells [i6 v.2.2.2.2.2.2.2.2.2.2.2.2.2.2.2.2.1,.rs 2],.rows Riii v.2.2.2.2.2.2.2.2.2.2.2.2.2.2.2.2.2.1,.cells [i6 v.2.2.2.2.2.2.2.2.2.2.2.2.2.2.2.2.2.2.1,.rs 4],.rows Riii v.2.2.2.2.2.2.2.2.2.2.2.2.2.2.2.2.2.2.2]⟩
def q32c (C:q2yu) (v:q326):Dt q32a:=(Dt.bnd (C.2.2.2.2.2.2.2.2.2.2.2.1 (((1:Int),()),((1:Int),()),())) fun r1=>(Dt.bnd (C.2.2.2.2.2.2.2.2.2.2.2.1 (((1:Int),()),((2:Int),()),())) fun r2=>(Dt.bnd (C.2.2.2.2.2.2.2.2.2.2.2.2.1 (())) fun r3=>(Dt.bnd (C.2.2.2.2.2.2.2.2.2.1 ((r1.1,r1.2,()),(r2.1,r2.2,()),(r3,()),((0:Int),(0:Int),()),())) fun r4=>(Dt.ret (v.1,v.2.1,v.2.2.1,v.2.2.2.1,v.2.2.2.2.1,v.2.2.2.2.2.1,v.2.2.2.2.2.2.1,v.2.2.2.2.2.2.2.1,v.2.2.2.2.2.2.2.2.1,v.2.2.2.2.2.2.2.2.2.1,v.2.2.2.2.2.2.2.2.2.2.1,v.2.2.2.2.2.2.2.2.2.2.2.1,v.2.2.2.2.2.2.2.2.2.2.2.2.1,r4.2.2,v.2.2.2.2.2.2.2.2.2.2.2.2.2.1,v.2.2.2.2.2.2.2.2.2.2.2.2.2.2.1,v.2.2.2.2.2.2.2.2.2.2.2.2.2.2.2.1,v.2.2.2.2.2.2.2.2.2.2.2.2.2.2.2.2.1,v.2.2.2.2.2.2.2.2.2.2.2.2.2.2.2.2.2.1,v.2.2.2.2.2.2.2.2.2.2.2.2.2.2.2.2.2.2))))))
theorem q32d C v:q35r (regO (qea f7) 31) false [(1,(.box [.any,.val Riii])),(21,(.box [.any,.own Riii])),(24,.any),(25,(.box [.any,.own Riii])),(26,.any),(28,.any),(29,.any),(30,.any),(31,.any),(32,.any),(33,.any),(34,.any),(36,.any),(39,.any),(41,.any),(43,.any),(45,.any)] q327 q32c q32b C v:=rgI (by kernel_rfl)
abbrev q32e:Type:=Int×Int×Int×Bool×Int×Bool×Int×Bool×Int×Int×Int×Int×Int×Int×Int×Int×List Diii×Int×List Diii×Int×List Diii
def q32f (v:q32e):St:=⟨[(1,.ptr 0 0),(21,.ptr 1 0),(24,i6 v.1),(25,.ptr 3 0),(26,i6 v.2.1),(28,i6 v.2.2.1),(29,.bool v.2.2.2.1),(30,i6 v.2.2.2.2.1),(31,.bool v.2.2.2.2.2.1),(32,i6 v.2.2.2.2.2.2.1),(33,.bool v.2.2.2.2.2.2.2.1),(34,i6 v.2.2.2.2.2.2.2.2.1),(36,i6 v.2.2.2.2.2.2.2.2.2.1),(39,i6 v.2.2.2.2.2.2.2.2.2.2.1),(41,i6 v.2.2.2.2.2.2.2.2.2.2.2.1),(43,i6 v.2.2.2.2.2.2.2.2.2.2.2.2.1),(45,i6 v.2.2.2.2.2.2.2.2.2.2.2.2.2.1),(47,i6 v.2.2.2.2.2.2.2.2.2.2.2.2.2.2.1)],[.cells [i6 v.2.2.2.2.2.2.2.2.2.2.2.2.2.2.2.1,.fz Riii v.2.2.2.2.2.2.2.2.2.2.2.2.2.2.2.2.1],.cells [i6 v.2.2.2.2.2.2.2.2.2.2.2.2.2.2.2.2.2.1,.rs 2],.rows Riii v.2.2.2.2.2.2.2.2.2.2.2.2.2.2.2.2.2.2.1,.cells [i6 v.2.2.2.2.2.2.2.2.2.2.2.2.2.2.2.2.2.2.2.1,.rs 4],.rows Riii v.2.2.2.2.2.2.2.2.2.2.2.2.2.2.2.2.2.2.2.2]⟩
def q32g (C:q2yu) (v:q32a):Dt q32e:=(Dt.bnd (C.2.2.2.2.2.2.2.2.2.2.2.1 (((40:Int),()),((0:Int),()),())) fun r1=>(Dt.bnd (C.2.2.2.2.2.2.2.2.2.2.2.1 (((25:Int),()),((50:Int),()),())) fun r2=>(Dt.bnd (C.2.2.2.2.2.2.2.2.2.2.2.2.1 (())) fun r3=>(Dt.bnd (C.2.2.2.2.2.2.2.2.2.2.2.2.2.2.1 (((0:Int),()),())) fun r4=>(Dt.bnd (C.2.2.2.2.2.2.2.2.2.1 ((r1.1,r1.2,()),(r2.1,r2.2,()),(r3,()),(r4.1,r4.2,()),())) fun r5=>(Dt.ret (v.1,v.2.1,v.2.2.1,v.2.2.2.1,v.2.2.2.2.1,v.2.2.2.2.2.1,v.2.2.2.2.2.2.1,v.2.2.2.2.2.2.2.1,v.2.2.2.2.2.2.2.2.1,v.2.2.2.2.2.2.2.2.2.1,v.2.2.2.2.2.2.2.2.2.2.1,v.2.2.2.2.2.2.2.2.2.2.2.1,v.2.2.2.2.2.2.2.2.2.2.2.2.1,v.2.2.2.2.2.2.2.2.2.2.2.2.2.1,r5.2.2,v.2.2.2.2.2.2.2.2.2.2.2.2.2.2.1,v.2.2.2.2.2.2.2.2.2.2.2.2.2.2.2.1,v.2.2.2.2.2.2.2.2.2.2.2.2.2.2.2.2.1,v.2.2.2.2.2.2.2.2.2.2.2.2.2.2.2.2.2.1,v.2.2.2.2.2.2.2.2.2.2.2.2.2.2.2.2.2.2.1,v.2.2.2.2.2.2.2.2.2.2.2.2.2.2.2.2.2.2.2)))))))
theorem q32h C v:q35r (regO (qea f7) 32) false [(1,(.box [.any,.val Riii])),(21,(.box [.any,.own Riii])),(24,.any),(25,(.box [.any,.own Riii])),(26,.any),(28,.any),(29,.any),(30,.any),(31,.any),(32,.any),(33,.any),(34,.any),(36,.any),(39,.any),(41,.any),(43,.any),(45,.any),(47,.any)] q32b q32g q32f C v:=rgI (by kernel_rfl)
abbrev q32i:Type:=Int×Int×Int×Bool×Int×Bool×Int×Bool×Int×Int×Int×Int×Int×Int×Int×Int×Int×List Diii×Int×List Diii×Int×List Diii
def q32j (v:q32i):St:=⟨[(1,.ptr 0 0),(21,.ptr 1 0),(24,i6 v.1),(25,.ptr 3 0),(26,i6 v.2.1),(28,i6 v.2.2.1),(29,.bool v.2.2.2.1),(30,i6 v.2.2.2.2.1),(31,.bool v.2.2.2.2.2.1),(32,i6 v.2.2.2.2.2.2.1),(33,.bool v.2.2.2.2.2.2.2.1),(34,i6 v.2.2.2.2.2.2.2.2.1),(36,i6 v.2.2.2.2.2.2.2.2.2.1),(39,i6 v.2.2.2.2.2.2.2.2.2.2.1),(41,i6 v.2.2.2.2.2.2.2.2.2.2.2.1),(43,i6 v.2.2.2.2.2.2.2.2.2.2.2.2.1),(45,i6 v.2.2.2.2.2.2.2.2.2.2.2.2.2.1),(47,i6 v.2.2.2.2.2.2.2.2.2.2.2.2.2.2.1),(49,i6 v.2.2.2.2.2.2.2.2.2.2.2.2.2.2.2.1)],[.cells [i6 v.2.2.2.2.2.2.2.2.2.2.2.2.2.2.2.2.1,.fz Riii v.2.2.2.2.2.2.2.2.2.2.2.2.2.2.2.2.2.1],.cells [i6 v.2.2.2.2.2.2.2.2.2.2.2.2.2.2.2.2.2.2.1,.rs 2],.rows Riii v.2.2.2.2.2.2.2.2.2.2.2.2.2.2.2.2.2.2.2.1,.cells [i6 v.2.2.2.2.2.2.2.2.2.2.2.2.2.2.2.2.2.2.2.2.1,.rs 4],.rows Riii v.2.2.2.2.2.2.2.2.2.2.2.2.2.2.2.2.2.2.2.2.2]⟩
def q32k (C:q2yu) (v:q32e):Dt q32i:=(Dt.bnd (C.2.2.2.2.2.2.2.2.2.2.2.1 (((1:Int),()),((3:Int),()),())) fun r1=>(Dt.bnd (C.2.2.2.2.2.2.2.2.2.2.2.1 (((1:Int),()),((5:Int),()),())) fun r2=>(Dt.bnd (C.2.2.2.2.2.2.2.2.2.2.2.2.1 (())) fun r3=>(Dt.bnd (C.2.2.2.2.2.2.2.2.2.2.2.2.2.2.1 (((0:Int),()),())) fun r4=>(Dt.bnd (C.2.2.2.2.2.2.2.2.2.1 ((r1.1,r1.2,()),(r2.1,r2.2,()),(r3,()),(r4.1,r4.2,()),())) fun r5=>(Dt.ret (v.1,v.2.1,v.2.2.1,v.2.2.2.1,v.2.2.2.2.1,v.2.2.2.2.2.1,v.2.2.2.2.2.2.1,v.2.2.2.2.2.2.2.1,v.2.2.2.2.2.2.2.2.1,v.2.2.2.2.2.2.2.2.2.1,v.2.2.2.2.2.2.2.2.2.2.1,v.2.2.2.2.2.2.2.2.2.2.2.1,v.2.2.2.2.2.2.2.2.2.2.2.2.1,v.2.2.2.2.2.2.2.2.2.2.2.2.2.1,v.2.2.2.2.2.2.2.2.2.2.2.2.2.2.1,r5.2.2,v.2.2.2.2.2.2.2.2.2.2.2.2.2.2.2.1,v.2.2.2.2.2.2.2.2.2.2.2.2.2.2.2.2.1,v.2.2.2.2.2.2.2.2.2.2.2.2.2.2.2.2.2.1,v.2.2.2.2.2.2.2.2.2.2.2.2.2.2.2.2.2.2.1,v.2.2.2.2.2.2.2.2.2.2.2.2.2.2.2.2.2.2.2.1,v.2.2.2.2.2.2.2.2.2.2.2.2.2.2.2.2.2.2.2.2)))))))
theorem q32l C v:q35r (regO (qea f7) 33) false [(1,(.box [.any,.val Riii])),(21,(.box [.any,.own Riii])),(24,.any),(25,(.box [.any,.own Riii])),(26,.any),(28,.any),(29,.any),(30,.any),(31,.any),(32,.any),(33,.any),(34,.any),(36,.any),(39,.any),(41,.any),(43,.any),(45,.any),(47,.any),(49,.any)] q32f q32k q32j C v:=rgI (by kernel_rfl)
abbrev q32m:Type:=Int×Int×Int×Bool×Int×Bool×Int×Bool×Int×Int×Int×Int×Int×Int×Int×Int×Int×Int×List Diii×Int×List Diii×Int×List Diii
def q32n (v:q32m):St:=⟨[(1,.ptr 0 0),(21,.ptr 1 0),(24,i6 v.1),(25,.ptr 3 0),(26,i6 v.2.1),(28,i6 v.2.2.1),(29,.bool v.2.2.2.1),(30,i6 v.2.2.2.2.1),(31,.bool v.2.2.2.2.2.1),(32,i6 v.2.2.2.2.2.2.1),(33,.bool v.2.2.2.2.2.2.2.1),(34,i6 v.2.2.2.2.2.2.2.2.1),(36,i6 v.2.2.2.2.2.2.2.2.2.1),(39,i6 v.2.2.2.2.2.2.2.2.2.2.1),(41,i6 v.2.2.2.2.2.2.2.2.2.2.2.1),(43,i6 v.2.2.2.2.2.2.2.2.2.2.2.2.1),(45,i6 v.2.2.2.2.2.2.2.2.2.2.2.2.2.1),(47,i6 v.2.2.2.2.2.2.2.2.2.2.2.2.2.2.1),(49,i6 v.2.2.2.2.2.2.2.2.2.2.2.2.2.2.2.1),(51,i6 v.2.2.2.2.2.2.2.2.2.2.2.2.2.2.2.2.1)],[.cells [i6 v.2.2.2.2.2.2.2.2.2.2.2.2.2.2.2.2.2.1,.fz Riii v.2.2.2.2.2.2.2.2.2.2.2.2.2.2.2.2.2.2.1],.cells [i6 v.2.2.2.2.2.2.2.2.2.2.2.2.2.2.2.2.2.2.2.1,.rs 2],.rows Riii v.2.2.2.2.2.2.2.2.2.2.2.2.2.2.2.2.2.2.2.2.1,.cells [i6 v.2.2.2.2.2.2.2.2.2.2.2.2.2.2.2.2.2.2.2.2.2.1,.rs 4],.rows Riii v.2.2.2.2.2.2.2.2.2.2.2.2.2.2.2.2.2.2.2.2.2.2]⟩
def q32o (C:q2yu) (v:q32i):Dt q32m:=(Dt.bnd (C.2.2.2.2.2.2.2.2.2.2.2.1 (((1:Int),()),((2:Int),()),())) fun r1=>(Dt.bnd (C.2.2.2.2.2.2.2.2.2.2.2.1 (((2:Int),()),((1:Int),()),())) fun r2=>(Dt.bnd (C.2.2.2.2.2.2.2.2.2.2.2.2.1 (())) fun r3=>(Dt.bnd (C.2.2.2.2.2.2.2.2.2.2.2.2.2.2.1 (((0:Int),()),())) fun r4=>(Dt.bnd (C.2.2.2.2.2.2.2.2.2.1 ((r1.1,r1.2,()),(r2.1,r2.2,()),(r3,()),(r4.1,r4.2,()),())) fun r5=>(Dt.ret (v.1,v.2.1,v.2.2.1,v.2.2.2.1,v.2.2.2.2.1,v.2.2.2.2.2.1,v.2.2.2.2.2.2.1,v.2.2.2.2.2.2.2.1,v.2.2.2.2.2.2.2.2.1,v.2.2.2.2.2.2.2.2.2.1,v.2.2.2.2.2.2.2.2.2.2.1,v.2.2.2.2.2.2.2.2.2.2.2.1,v.2.2.2.2.2.2.2.2.2.2.2.2.1,v.2.2.2.2.2.2.2.2.2.2.2.2.2.1,v.2.2.2.2.2.2.2.2.2.2.2.2.2.2.1,v.2.2.2.2.2.2.2.2.2.2.2.2.2.2.2.1,r5.2.2,v.2.2.2.2.2.2.2.2.2.2.2.2.2.2.2.2.1,v.2.2.2.2.2.2.2.2.2.2.2.2.2.2.2.2.2.1,v.2.2.2.2.2.2.2.2.2.2.2.2.2.2.2.2.2.2.1,v.2.2.2.2.2.2.2.2.2.2.2.2.2.2.2.2.2.2.2.1,v.2.2.2.2.2.2.2.2.2.2.2.2.2.2.2.2.2.2.2.2.1,v.2.2.2.2.2.2.2.2.2.2.2.2.2.2.2.2.2.2.2.2.2)))))))
theorem q32p C v:q35r (regO (qea f7) 34) false [(1,(.box [.any,.val Riii])),(21,(.box [.any,.own Riii])),(24,.any),(25,(.box [.any,.own Riii])),(26,.any),(28,.any),(29,.any),(30,.any),(31,.any),(32,.any),(33,.any),(34,.any),(36,.any),(39,.any),(41,.any),(43,.any),(45,.any),(47,.any),(49,.any),(51,.any)] q32j q32o q32n C v:=rgI (by kernel_rfl)
abbrev q32q:Type:=Int×Int×Int×Bool×Int×Bool×Int×Bool×Int×Int×Int×Int×Int×Int×Int×Int×Int×Int×Int×List Diii×Int×List Diii×Int×List Diii
def q32r (v:q32q):St:=⟨[(1,.ptr 0 0),(21,.ptr 1 0),(24,i6 v.1),(25,.ptr 3 0),(26,i6 v.2.1),(28,i6 v.2.2.1),(29,.bool v.2.2.2.1),(30,i6 v.2.2.2.2.1),(31,.bool v.2.2.2.2.2.1),(32,i6 v.2.2.2.2.2.2.1),(33,.bool v.2.2.2.2.2.2.2.1),(34,i6 v.2.2.2.2.2.2.2.2.1),(36,i6 v.2.2.2.2.2.2.2.2.2.1),(39,i6 v.2.2.2.2.2.2.2.2.2.2.1),(41,i6 v.2.2.2.2.2.2.2.2.2.2.2.1),(43,i6 v.2.2.2.2.2.2.2.2.2.2.2.2.1),(45,i6 v.2.2.2.2.2.2.2.2.2.2.2.2.2.1),(47,i6 v.2.2.2.2.2.2.2.2.2.2.2.2.2.2.1),(49,i6 v.2.2.2.2.2.2.2.2.2.2.2.2.2.2.2.1),(51,i6 v.2.2.2.2.2.2.2.2.2.2.2.2.2.2.2.2.1),(53,i6 v.2.2.2.2.2.2.2.2.2.2.2.2.2.2.2.2.2.1)],[.cells [i6 v.2.2.2.2.2.2.2.2.2.2.2.2.2.2.2.2.2.2.1,.fz Riii v.2.2.2.2.2.2.2.2.2.2.2.2.2.2.2.2.2.2.2.1],.cells [i6 v.2.2.2.2.2.2.2.2.2.2.2.2.2.2.2.2.2.2.2.2.1,.rs 2],.rows Riii v.2.2.2.2.2.2.2.2.2.2.2.2.2.2.2.2.2.2.2.2.2.1,.cells [i6 v.2.2.2.2.2.2.2.2.2.2.2.2.2.2.2.2.2.2.2.2.2.2.1,.rs 4],.rows Riii v.2.2.2.2.2.2.2.2.2.2.2.2.2.2.2.2.2.2.2.2.2.2.2]⟩
def q32s (C:q2yu) (v:q32m):Dt q32q:=(Dt.bnd (C.2.2.2.2.2.2.2.2.2.2.2.2.2.2.2.1 (())) fun r1=>(Dt.bnd (C.2.2.2.1 ((r1.1,r1.2,()),((3:Int),()),())) fun r2=>(Dt.ret (v.1,v.2.1,v.2.2.1,v.2.2.2.1,v.2.2.2.2.1,v.2.2.2.2.2.1,v.2.2.2.2.2.2.1,v.2.2.2.2.2.2.2.1,v.2.2.2.2.2.2.2.2.1,v.2.2.2.2.2.2.2.2.2.1,v.2.2.2.2.2.2.2.2.2.2.1,v.2.2.2.2.2.2.2.2.2.2.2.1,v.2.2.2.2.2.2.2.2.2.2.2.2.1,v.2.2.2.2.2.2.2.2.2.2.2.2.2.1,v.2.2.2.2.2.2.2.2.2.2.2.2.2.2.1,v.2.2.2.2.2.2.2.2.2.2.2.2.2.2.2.1,v.2.2.2.2.2.2.2.2.2.2.2.2.2.2.2.2.1,r2.2,v.2.2.2.2.2.2.2.2.2.2.2.2.2.2.2.2.2.1,v.2.2.2.2.2.2.2.2.2.2.2.2.2.2.2.2.2.2.1,v.2.2.2.2.2.2.2.2.2.2.2.2.2.2.2.2.2.2.2.1,v.2.2.2.2.2.2.2.2.2.2.2.2.2.2.2.2.2.2.2.2.1,v.2.2.2.2.2.2.2.2.2.2.2.2.2.2.2.2.2.2.2.2.2.1,v.2.2.2.2.2.2.2.2.2.2.2.2.2.2.2.2.2.2.2.2.2.2))))
theorem q32t C v:q35r (regO (qea f7) 35) false [(1,(.box [.any,.val Riii])),(21,(.box [.any,.own Riii])),(24,.any),(25,(.box [.any,.own Riii])),(26,.any),(28,.any),(29,.any),(30,.any),(31,.any),(32,.any),(33,.any),(34,.any),(36,.any),(39,.any),(41,.any),(43,.any),(45,.any),(47,.any),(49,.any),(51,.any),(53,.any)] q32n q32s q32r C v:=rgI (by kernel_rfl)
abbrev q32u:Type:=Int×Int×Int×Bool×Int×Bool×Int×Bool×Int×Int×Int×Int×Int×Int×Int×Int×Int×Int×Int×Int×List Diii×Int×List Diii×Int×List Diii×Int×List Diii
def q32v (v:q32u):St:=⟨[(1,.ptr 0 0),(21,.ptr 1 0),(24,i6 v.1),(25,.ptr 3 0),(26,i6 v.2.1),(28,i6 v.2.2.1),(29,.bool v.2.2.2.1),(30,i6 v.2.2.2.2.1),(31,.bool v.2.2.2.2.2.1),(32,i6 v.2.2.2.2.2.2.1),(33,.bool v.2.2.2.2.2.2.2.1),(34,i6 v.2.2.2.2.2.2.2.2.1),(36,i6 v.2.2.2.2.2.2.2.2.2.1),(39,i6 v.2.2.2.2.2.2.2.2.2.2.1),(41,i6 v.2.2.2.2.2.2.2.2.2.2.2.1),(43,i6 v.2.2.2.2.2.2.2.2.2.2.2.2.1),(45,i6 v.2.2.2.2.2.2.2.2.2.2.2.2.2.1),(47,i6 v.2.2.2.2.2.2.2.2.2.2.2.2.2.2.1),(49,i6 v.2.2.2.2.2.2.2.2.2.2.2.2.2.2.2.1),(51,i6 v.2.2.2.2.2.2.2.2.2.2.2.2.2.2.2.2.1),(53,i6 v.2.2.2.2.2.2.2.2.2.2.2.2.2.2.2.2.2.1),(54,.ptr 5 0),(55,i6 v.2.2.2.2.2.2.2.2.2.2.2.2.2.2.2.2.2.2.1)],[.cells [i6 v.2.2.2.2.2.2.2.2.2.2.2.2.2.2.2.2.2.2.2.1,.fz Riii v.2.2.2.2.2.2.2.2.2.2.2.2.2.2.2.2.2.2.2.2.1],.cells [i6 v.2.2.2.2.2.2.2.2.2.2.2.2.2.2.2.2.2.2.2.2.2.1,.rs 2],.rows Riii v.2.2.2.2.2.2.2.2.2.2.2.2.2.2.2.2.2.2.2.2.2.2.1,.cells [i6 v.2.2.2.2.2.2.2.2.2.2.2.2.2.2.2.2.2.2.2.2.2.2.2.1,.rs 4],.rows Riii v.2.2.2.2.2.2.2.2.2.2.2.2.2.2.2.2.2.2.2.2.2.2.2.2.1,.cells [i6 v.2.2.2.2.2.2.2.2.2.2.2.2.2.2.2.2.2.2.2.2.2.2.2.2.2.1,.rs 6],.rows Riii v.2.2.2.2.2.2.2.2.2.2.2.2.2.2.2.2.2.2.2.2.2.2.2.2.2.2]⟩
def q32w (C:q2yu) (v:q32q):Dt q32u:=(Dt.bnd (C.2.2.2.2.2.2.2.2.2.2.2.2.1 (())) fun r1=>(Dt.bnd (C.2.2.2.2.2.2.2.2.2.2.2.2.2.2.1 (((0:Int),()),())) fun r2=>(Dt.bnd (C.2.2.2.2.2.2.2.2.2.1 ((v.2.2.2.2.2.2.2.2.2.2.2.2.2.2.2.2.2.2.1,v.2.2.2.2.2.2.2.2.2.2.2.2.2.2.2.2.2.2.2.1,()),(v.2.2.2.2.2.2.2.2.2.2.2.2.2.2.2.2.2.2.1,v.2.2.2.2.2.2.2.2.2.2.2.2.2.2.2.2.2.2.2.1,()),(r1,()),(r2.1,r2.2,()),())) fun r3=>(Dt.ret (v.1,v.2.1,v.2.2.1,v.2.2.2.1,v.2.2.2.2.1,v.2.2.2.2.2.1,v.2.2.2.2.2.2.1,v.2.2.2.2.2.2.2.1,v.2.2.2.2.2.2.2.2.1,v.2.2.2.2.2.2.2.2.2.1,v.2.2.2.2.2.2.2.2.2.2.1,v.2.2.2.2.2.2.2.2.2.2.2.1,v.2.2.2.2.2.2.2.2.2.2.2.2.1,v.2.2.2.2.2.2.2.2.2.2.2.2.2.1,v.2.2.2.2.2.2.2.2.2.2.2.2.2.2.1,v.2.2.2.2.2.2.2.2.2.2.2.2.2.2.2.1,v.2.2.2.2.2.2.2.2.2.2.2.2.2.2.2.2.1,v.2.2.2.2.2.2.2.2.2.2.2.2.2.2.2.2.2.1,r3.2.2,v.2.2.2.2.2.2.2.2.2.2.2.2.2.2.2.2.2.2.1,v.2.2.2.2.2.2.2.2.2.2.2.2.2.2.2.2.2.2.2.1,v.2.2.2.2.2.2.2.2.2.2.2.2.2.2.2.2.2.2.2.2.1,v.2.2.2.2.2.2.2.2.2.2.2.2.2.2.2.2.2.2.2.2.2.1,v.2.2.2.2.2.2.2.2.2.2.2.2.2.2.2.2.2.2.2.2.2.2.1,v.2.2.2.2.2.2.2.2.2.2.2.2.2.2.2.2.2.2.2.2.2.2.2,r3.1,r3.2.1)))))
theorem q32x C v:q35r (regO (qea f7) 36) true [(1,(.box [.any,.val Riii])),(21,(.box [.any,.own Riii])),(24,.any),(25,(.box [.any,.own Riii])),(26,.any),(28,.any),(29,.any),(30,.any),(31,.any),(32,.any),(33,.any),(34,.any),(36,.any),(39,.any),(41,.any),(43,.any),(45,.any),(47,.any),(49,.any),(51,.any),(53,.any),(54,(.box [.any,.own Riii])),(55,.any)] q32r q32w q32v C v:=rgI (by kernel_rfl)
abbrev q32y:Type:=Int×Int×Int×Bool×Int×Bool×Int×Bool×Int×Int×Int×Int×Int×Int×Int×Int×Int×Int×Int×Int×Int×List Diii×Int×List Diii×Int×List Diii×Int×List Diii×Int×List Diii×Int×List Diii
def q32z (v:q32y):St:=⟨[(1,.ptr 0 0),(21,.ptr 1 0),(24,i6 v.1),(25,.ptr 3 0),(26,i6 v.2.1),(28,i6 v.2.2.1),(29,.bool v.2.2.2.1),(30,i6 v.2.2.2.2.1),(31,.bool v.2.2.2.2.2.1),(32,i6 v.2.2.2.2.2.2.1),(33,.bool v.2.2.2.2.2.2.2.1),(34,i6 v.2.2.2.2.2.2.2.2.1),(36,i6 v.2.2.2.2.2.2.2.2.2.1),(39,i6 v.2.2.2.2.2.2.2.2.2.2.1),(41,i6 v.2.2.2.2.2.2.2.2.2.2.2.1),(43,i6 v.2.2.2.2.2.2.2.2.2.2.2.2.1),(45,i6 v.2.2.2.2.2.2.2.2.2.2.2.2.2.1),(47,i6 v.2.2.2.2.2.2.2.2.2.2.2.2.2.2.1),(49,i6 v.2.2.2.2.2.2.2.2.2.2.2.2.2.2.2.1),(51,i6 v.2.2.2.2.2.2.2.2.2.2.2.2.2.2.2.2.1),(53,i6 v.2.2.2.2.2.2.2.2.2.2.2.2.2.2.2.2.2.1),(54,.ptr 5 0),(55,i6 v.2.2.2.2.2.2.2.2.2.2.2.2.2.2.2.2.2.2.1),(56,.ptr 7 0),(57,.ptr 9 0),(58,i6 v.2.2.2.2.2.2.2.2.2.2.2.2.2.2.2.2.2.2.2.1)],[.cells [i6 v.2.2.2.2.2.2.2.2.2.2.2.2.2.2.2.2.2.2.2.2.1,.fz Riii v.2.2.2.2.2.2.2.2.2.2.2.2.2.2.2.2.2.2.2.2.2.1],.cells [i6 v.2.2.2.2.2.2.2.2.2.2.2.2.2.2.2.2.2.2.2.2.2.2.1,.rs 2],.rows Riii v.2.2.2.2.2.2.2.2.2.2.2.2.2.2.2.2.2.2.2.2.2.2.2.1,.cells [i6 v.2.2.2.2.2.2.2.2.2.2.2.2.2.2.2.2.2.2.2.2.2.2.2.2.1,.rs 4],.rows Riii v.2.2.2.2.2.2.2.2.2.2.2.2.2.2.2.2.2.2.2.2.2.2.2.2.2.1,.cells [i6 v.2.2.2.2.2.2.2.2.2.2.2.2.2.2.2.2.2.2.2.2.2.2.2.2.2.2.1,.rs 6],.rows Riii v.2.2.2.2.2.2.2.2.2.2.2.2.2.2.2.2.2.2.2.2.2.2.2.2.2.2.2.1,.cells [i6 v.2.2.2.2.2.2.2.2.2.2.2.2.2.2.2.2.2.2.2.2.2.2.2.2.2.2.2.2.1,.rs 8],.rows Riii v.2.2.2.2.2.2.2.2.2.2.2.2.2.2.2.2.2.2.2.2.2.2.2.2.2.2.2.2.2.1,.cells [i6 v.2.2.2.2.2.2.2.2.2.2.2.2.2.2.2.2.2.2.2.2.2.2.2.2.2.2.2.2.2.2.1,.rs 10],.rows Riii v.2.2.2.2.2.2.2.2.2.2.2.2.2.2.2.2.2.2.2.2.2.2.2.2.2.2.2.2.2.2.2]⟩
def q330 (C:q2yu) (v:q32u):Dt q32y:=(Dt.bnd (C.2.2.2.2.2.2.2.2.1 ((v.2.2.2.2.2.2.2.2.2.2.2.2.2.2.2.2.2.2.2.1,v.2.2.2.2.2.2.2.2.2.2.2.2.2.2.2.2.2.2.2.2.1,()),((7:Int),()),())) fun r1=>(Dt.ret (v.1,v.2.1,v.2.2.1,v.2.2.2.1,v.2.2.2.2.1,v.2.2.2.2.2.1,v.2.2.2.2.2.2.1,v.2.2.2.2.2.2.2.1,v.2.2.2.2.2.2.2.2.1,v.2.2.2.2.2.2.2.2.2.1,v.2.2.2.2.2.2.2.2.2.2.1,v.2.2.2.2.2.2.2.2.2.2.2.1,v.2.2.2.2.2.2.2.2.2.2.2.2.1,v.2.2.2.2.2.2.2.2.2.2.2.2.2.1,v.2.2.2.2.2.2.2.2.2.2.2.2.2.2.1,v.2.2.2.2.2.2.2.2.2.2.2.2.2.2.2.1,v.2.2.2.2.2.2.2.2.2.2.2.2.2.2.2.2.1,v.2.2.2.2.2.2.2.2.2.2.2.2.2.2.2.2.2.1,v.2.2.2.2.2.2.2.2.2.2.2.2.2.2.2.2.2.2.1,r1.2.2.2.2,v.2.2.2.2.2.2.2.2.2.2.2.2.2.2.2.2.2.2.2.1,v.2.2.2.2.2.2.2.2.2.2.2.2.2.2.2.2.2.2.2.2.1,v.2.2.2.2.2.2.2.2.2.2.2.2.2.2.2.2.2.2.2.2.2.1,v.2.2.2.2.2.2.2.2.2.2.2.2.2.2.2.2.2.2.2.2.2.2.1,v.2.2.2.2.2.2.2.2.2.2.2.2.2.2.2.2.2.2.2.2.2.2.2.1,v.2.2.2.2.2.2.2.2.2.2.2.2.2.2.2.2.2.2.2.2.2.2.2.2.1,v.2.2.2.2.2.2.2.2.2.2.2.2.2.2.2.2.2.2.2.2.2.2.2.2.2.1,v.2.2.2.2.2.2.2.2.2.2.2.2.2.2.2.2.2.2.2.2.2.2.2.2.2.2,r1.1,r1.2.1,r1.2.2.1,r1.2.2.2.1)))
theorem q331 C v:q35r (regO (qea f7) 37) false [(1,(.box [.any,.val Riii])),(21,(.box [.any,.own Riii])),(24,.any),(25,(.box [.any,.own Riii])),(26,.any),(28,.any),(29,.any),(30,.any),(31,.any),(32,.any),(33,.any),(34,.any),(36,.any),(39,.any),(41,.any),(43,.any),(45,.any),(47,.any),(49,.any),(51,.any),(53,.any),(54,(.box [.any,.own Riii])),(55,.any),(56,(.box [.any,.own Riii])),(57,(.box [.any,.own Riii])),(58,.any)] q32v q330 q32z C v:=rgI (by kernel_rfl)
abbrev q332:Type:=Int×Int×Int×Bool×Int×Bool×Int×Bool×Int×Int×Int×Int×Int×Int×Int×Int×Int×Int×Int×Int×Int×Int×List Diii×Int×List Diii×Int×List Diii×Int×List Diii×Int×List Diii×List Di
def q333 (v:q332):St:=⟨[(1,.ptr 0 0),(24,i6 v.1),(25,.ptr 1 0),(26,i6 v.2.1),(28,i6 v.2.2.1),(29,.bool v.2.2.2.1),(30,i6 v.2.2.2.2.1),(31,.bool v.2.2.2.2.2.1),(32,i6 v.2.2.2.2.2.2.1),(33,.bool v.2.2.2.2.2.2.2.1),(34,i6 v.2.2.2.2.2.2.2.2.1),(36,i6 v.2.2.2.2.2.2.2.2.2.1),(39,i6 v.2.2.2.2.2.2.2.2.2.2.1),(41,i6 v.2.2.2.2.2.2.2.2.2.2.2.1),(43,i6 v.2.2.2.2.2.2.2.2.2.2.2.2.1),(45,i6 v.2.2.2.2.2.2.2.2.2.2.2.2.2.1),(47,i6 v.2.2.2.2.2.2.2.2.2.2.2.2.2.2.1),(49,i6 v.2.2.2.2.2.2.2.2.2.2.2.2.2.2.2.1),(51,i6 v.2.2.2.2.2.2.2.2.2.2.2.2.2.2.2.2.1),(53,i6 v.2.2.2.2.2.2.2.2.2.2.2.2.2.2.2.2.2.1),(54,.ptr 3 0),(55,i6 v.2.2.2.2.2.2.2.2.2.2.2.2.2.2.2.2.2.2.1),(56,.ptr 5 0),(57,.ptr 7 0),(58,i6 v.2.2.2.2.2.2.2.2.2.2.2.2.2.2.2.2.2.2.2.1),(59,.rs 9),(60,i6 v.2.2.2.2.2.2.2.2.2.2.2.2.2.2.2.2.2.2.2.2.1)],[.cells [i6 v.2.2.2.2.2.2.2.2.2.2.2.2.2.2.2.2.2.2.2.2.2.1,.fz Riii v.2.2.2.2.2.2.2.2.2.2.2.2.2.2.2.2.2.2.2.2.2.2.1],.cells [i6 v.2.2.2.2.2.2.2.2.2.2.2.2.2.2.2.2.2.2.2.2.2.2.2.1,.rs 2],.rows Riii v.2.2.2.2.2.2.2.2.2.2.2.2.2.2.2.2.2.2.2.2.2.2.2.2.1,.cells [i6 v.2.2.2.2.2.2.2.2.2.2.2.2.2.2.2.2.2.2.2.2.2.2.2.2.2.1,.rs 4],.rows Riii v.2.2.2.2.2.2.2.2.2.2.2.2.2.2.2.2.2.2.2.2.2.2.2.2.2.2.1,.cells [i6 v.2.2.2.2.2.2.2.2.2.2.2.2.2.2.2.2.2.2.2.2.2.2.2.2.2.2.2.1,.rs 6],.rows Riii v.2.2.2.2.2.2.2.2.2.2.2.2.2.2.2.2.2.2.2.2.2.2.2.2.2.2.2.2.1,.cells [i6 v.2.2.2.2.2.2.2.2.2.2.2.2.2.2.2.2.2.2.2.2.2.2.2.2.2.2.2.2.2.1,.rs 8],.rows Riii v.2.2.2.2.2.2.2.2.2.2.2.2.2.2.2.2.2.2.2.2.2.2.2.2.2.2.2.2.2.2.1,.rows Ri v.2.2.2.2.2.2.2.2.2.2.2.2.2.2.2.2.2.2.2.2.2.2.2.2.2.2.2.2.2.2.2]⟩
def q334 (C:q2yu) (v:q32y):Dt q332:=(Dt.bnd (C.2.1 ((v.2.2.2.2.2.2.2.2.2.2.2.2.2.2.2.2.2.2.2.2.2.2.1,v.2.2.2.2.2.2.2.2.2.2.2.2.2.2.2.2.2.2.2.2.2.2.2.1,()),())) fun r1=>(Dt.ret (v.1,v.2.1,v.2.2.1,v.2.2.2.1,v.2.2.2.2.1,v.2.2.2.2.2.1,v.2.2.2.2.2.2.1,v.2.2.2.2.2.2.2.1,v.2.2.2.2.2.2.2.2.1,v.2.2.2.2.2.2.2.2.2.1,v.2.2.2.2.2.2.2.2.2.2.1,v.2.2.2.2.2.2.2.2.2.2.2.1,v.2.2.2.2.2.2.2.2.2.2.2.2.1,v.2.2.2.2.2.2.2.2.2.2.2.2.2.1,v.2.2.2.2.2.2.2.2.2.2.2.2.2.2.1,v.2.2.2.2.2.2.2.2.2.2.2.2.2.2.2.1,v.2.2.2.2.2.2.2.2.2.2.2.2.2.2.2.2.1,v.2.2.2.2.2.2.2.2.2.2.2.2.2.2.2.2.2.1,v.2.2.2.2.2.2.2.2.2.2.2.2.2.2.2.2.2.2.1,v.2.2.2.2.2.2.2.2.2.2.2.2.2.2.2.2.2.2.2.1,r1.2,v.2.2.2.2.2.2.2.2.2.2.2.2.2.2.2.2.2.2.2.2.1,v.2.2.2.2.2.2.2.2.2.2.2.2.2.2.2.2.2.2.2.2.2.1,v.2.2.2.2.2.2.2.2.2.2.2.2.2.2.2.2.2.2.2.2.2.2.2.2.1,v.2.2.2.2.2.2.2.2.2.2.2.2.2.2.2.2.2.2.2.2.2.2.2.2.2.1,v.2.2.2.2.2.2.2.2.2.2.2.2.2.2.2.2.2.2.2.2.2.2.2.2.2.2.1,v.2.2.2.2.2.2.2.2.2.2.2.2.2.2.2.2.2.2.2.2.2.2.2.2.2.2.2.1,v.2.2.2.2.2.2.2.2.2.2.2.2.2.2.2.2.2.2.2.2.2.2.2.2.2.2.2.2.1,v.2.2.2.2.2.2.2.2.2.2.2.2.2.2.2.2.2.2.2.2.2.2.2.2.2.2.2.2.2.1,v.2.2.2.2.2.2.2.2.2.2.2.2.2.2.2.2.2.2.2.2.2.2.2.2.2.2.2.2.2.2.1,v.2.2.2.2.2.2.2.2.2.2.2.2.2.2.2.2.2.2.2.2.2.2.2.2.2.2.2.2.2.2.2,r1.1)))
theorem q335 C v:q35r (regO (qea f7) 38) false [(1,(.box [.any,.val Riii])),(24,.any),(25,(.box [.any,.own Riii])),(26,.any),(28,.any),(29,.any),(30,.any),(31,.any),(32,.any),(33,.any),(34,.any),(36,.any),(39,.any),(41,.any),(43,.any),(45,.any),(47,.any),(49,.any),(51,.any),(53,.any),(54,(.box [.any,.own Riii])),(55,.any),(56,(.box [.any,.own Riii])),(57,(.box [.any,.own Riii])),(58,.any),(59,(.own Ri)),(60,.any)] q32z q334 q333 C v:=rgI (by kernel_rfl)
def q336 (C:q2yu) (v:q332):Dt q30r:=(Dt.ite (v.1 == (4:Int)) (Dt.ite (v.2.1 == (0:Int)) (Dt.bnd (C.2.2.2.2.2.1 ((v.2.2.2.2.2.2.2.2.2.2.2.2.2.2.2.2.2.2.2.2.2.2.2.1,v.2.2.2.2.2.2.2.2.2.2.2.2.2.2.2.2.2.2.2.2.2.2.2.2.1,()),(v.2.2.2.2.2.2.2.2.2.2.2.2.2.2.2.2.2.2.2.2.2.1,v.2.2.2.2.2.2.2.2.2.2.2.2.2.2.2.2.2.2.2.2.2.2.1,()),())) fun r1=>(Dt.ite r1 (Dt.ite (v.2.2.1 == (8:Int)) (Dt.ite (v.2.2.2.2.1 == (0:Int)) (Dt.ite v.2.2.2.1 (Dt.ite (v.2.2.2.2.2.2.1 == (0:Int)) (Dt.ite v.2.2.2.2.2.1 (Dt.ite (v.2.2.2.2.2.2.2.2.1 == (0:Int)) (Dt.ite (!v.2.2.2.2.2.2.2.1) (Dt.ite (v.2.2.2.2.2.2.2.2.2.1 == (8:Int)) (Dt.ite (v.2.2.2.2.2.2.2.2.2.2.1 == (32:Int)) (Dt.ite (v.2.2.2.2.2.2.2.2.2.2.2.1 == (32:Int)) (Dt.ite (v.2.2.2.2.2.2.2.2.2.2.2.2.1 == (4:Int)) (Dt.ite (v.2.2.2.2.2.2.2.2.2.2.2.2.2.1 == (8:Int)) (Dt.ite (v.2.2.2.2.2.2.2.2.2.2.2.2.2.2.1 == (4:Int)) (Dt.ite (v.2.2.2.2.2.2.2.2.2.2.2.2.2.2.2.1 == (6:Int)) (Dt.ite (v.2.2.2.2.2.2.2.2.2.2.2.2.2.2.2.2.1 == (32:Int)) (Dt.ite (v.2.2.2.2.2.2.2.2.2.2.2.2.2.2.2.2.2.1 == (6:Int)) (Dt.ite (v.2.2.2.2.2.2.2.2.2.2.2.2.2.2.2.2.2.2.1 == (0:Int)) (Dt.bnd (C.2.2.2.2.2.1 ((v.2.2.2.2.2.2.2.2.2.2.2.2.2.2.2.2.2.2.2.2.2.2.2.2.2.1,v.2.2.2.2.2.2.2.2.2.2.2.2.2.2.2.2.2.2.2.2.2.2.2.2.2.2.1,()),(v.2.2.2.2.2.2.2.2.2.2.2.2.2.2.2.2.2.2.2.2.2.1,v.2.2.2.2.2.2.2.2.2.2.2.2.2.2.2.2.2.2.2.2.2.2.1,()),())) fun r2=>(Dt.ite r2 (Dt.ite (v.2.2.2.2.2.2.2.2.2.2.2.2.2.2.2.2.2.2.2.1 == (0:Int)) (Dt.bnd (C.2.2.2.2.2.1 ((v.2.2.2.2.2.2.2.2.2.2.2.2.2.2.2.2.2.2.2.2.2.2.2.2.2.2.2.1,v.2.2.2.2.2.2.2.2.2.2.2.2.2.2.2.2.2.2.2.2.2.2.2.2.2.2.2.2.1,()),(v.2.2.2.2.2.2.2.2.2.2.2.2.2.2.2.2.2.2.2.2.2.1,v.2.2.2.2.2.2.2.2.2.2.2.2.2.2.2.2.2.2.2.2.2.2.1,()),())) fun r3=>(Dt.ite r3 (Dt.bnd (C.2.2.2.2.2.1 ((v.2.2.2.2.2.2.2.2.2.2.2.2.2.2.2.2.2.2.2.2.2.2.2.2.2.2.2.2.2.1,v.2.2.2.2.2.2.2.2.2.2.2.2.2.2.2.2.2.2.2.2.2.2.2.2.2.2.2.2.2.2.1,()),(v.2.2.2.2.2.2.2.2.2.2.2.2.2.2.2.2.2.2.2.2.2.1,v.2.2.2.2.2.2.2.2.2.2.2.2.2.2.2.2.2.2.2.2.2.2.1,()),())) fun r4=>(Dt.ite r4 (Dt.ite (v.2.2.2.2.2.2.2.2.2.2.2.2.2.2.2.2.2.2.2.2.1 == (0:Int)) (Dt.bnd (C.2.2.2.2.2.2.2.1 ((v.2.2.2.2.2.2.2.2.2.2.2.2.2.2.2.2.2.2.2.2.2.2.2.2.2.2.2.2.2.2.2,()),(([((1:Int),()),((2:Int),()),((5:Int),())]:List Di),()),())) fun r5=>(Dt.ite r5 (Dt.bnd (C.2.2.2.2.2.2.2.2.2.2.1 (())) fun r6=>(Dt.ret r6)) (Dt.ret false))) (Dt.ret false)) (Dt.ret false))) (Dt.ret false))) (Dt.ret false)) (Dt.ret false))) (Dt.ret false)) (Dt.ret false)) (Dt.ret false)) (Dt.ret false)) (Dt.ret false)) (Dt.ret false)) (Dt.ret false)) (Dt.ret false)) (Dt.ret false)) (Dt.ret false)) (Dt.ret false)) (Dt.ret false)) (Dt.ret false)) (Dt.ret false)) (Dt.ret false)) (Dt.ret false)) (Dt.ret false)) (Dt.ret false))) (Dt.ret false)) (Dt.ret false))
theorem q337 C v:q35r (regO (qea f7) 39) false [(0,.any)] q333 q336 q30s C v:=rgI (by kernel_rfl)
def q338 (d:Nat) (self1:(Int×Int×List Diii×List qkw)→Option q2yr) (x1:Int×Int×List Diii×List qkw):Option q2yr :=
 (q2zj (q2yv d) x1).eval fun y5 =>
 bif y5.2.1 then ((q2zn (q2yv d) y5).eval fun y7 =>
 (q2zr (q2yv d) y7).eval fun y8 =>
 bif y8.2.2.1 then ((q2zt (q2yv d) y8).eval fun y9 =>
 q30x d self1 y9) else (q30x d self1 (y8.1,y8.2.1,y8.2.2.2.1,y8.2.2.2.2.1,y8.2.2.2.2.2))) else ((q310 (q2yv d) y5).eval fun y19 =>
 (q314 (q2yv d) y19).eval fun y20 =>
 (q318 (q2yv d) y20).eval fun y21 =>
 (q31c (q2yv d) y21).eval fun y22 =>
 (q31g (q2yv d) y22).eval fun y23 =>
 (q31k (q2yv d) y23).eval fun y24 =>
 (q31o (q2yv d) y24).eval fun y25 =>
 (q31s (q2yv d) y25).eval fun y26 =>
 (q31w (q2yv d) y26).eval fun y27 =>
 (q320 (q2yv d) y27).eval fun y28 =>
 (q324 (q2yv d) y28).eval fun y29 =>
 (q328 (q2yv d) y29).eval fun y30 =>
 (q32c (q2yv d) y30).eval fun y31 =>
 (q32g (q2yv d) y31).eval fun y32 =>
 (q32k (q2yv d) y32).eval fun y33 =>
 (q32o (q2yv d) y33).eval fun y34 =>
 (q32s (q2yv d) y34).eval fun y35 =>
 (q32w (q2yv d) y35).eval fun y36 =>
 (q330 (q2yv d) y36).eval fun y37 =>
 (q334 (q2yv d) y37).eval fun y38 =>
 (q336 (q2yv d) y38).eval fun y39 =>
 some y39)
def q339 (d:Nat) (x:q2yq):Option q2yr :=
 (q2yz (q2yv d) ()).eval fun y0 =>
 (q2z3 (q2yv d) ()).eval fun y1 =>
 (q2z7 (q2yv d) y1).eval fun y2 =>
 (q2zb (q2yv d) y2).eval fun y3 =>
 (q2zf (q2yv d) y3).eval fun y4 =>
 iter (q338 d ) d y4
theorem q33a (d:Nat):COK prog (q2yt (q339 d)):=by
 have hm:prog.follows .mixedOrders=true:=mixed
 have hT:=tys
 have hC0:OrcOK prog (orc (q2yw (q2yv d))):=qe4 (by
  intro S hS
  simp only [q2yw,List.mem_cons,List.not_mem_nil,or_false] at hS
  rcases hS with rfl | rfl | rfl | rfl | rfl | rfl | rfl | rfl | rfl | rfl | rfl | rfl | rfl | rfl | rfl | rfl
  · exact q15i d
  · exact q10e d
  · exact q1ao d
  · exact q126 d
  · exact q19k d
  · exact q1cf d
  · exact qyz d
  · exact qui d
  · exact q2kf d
  · exact q2qx d
  · exact q2wu d
  · exact q2y6 d
  · exact q2uu d
  · exact q2yo d
  · exact q2ve d
  · exact q2vw d)
 have hC:OrcOK prog (orc (q2yw (q2yv d))):=hC0
 refine q9t (c:=qea f7) (fn:=f7) hT (by kernel_rfl) (by kernel_rfl) (by decide) fun x r h w0 φ0 Q hend=>?_
 replace h:q339 d x=some r:=h
 unfold q339 at h
 show Run prog w0 φ0 460 (qea f7) ⟨[],[]⟩ Q
 refine q344 hm hT hC (q2z0 (q2yv d) ()) h fun y0 h=>?_
 refine q344 hm hT hC (q2z4 (q2yv d) ()) h fun y1 h=>?_
 refine q344 hm hT hC (q2z8 (q2yv d) y1) h fun y2 h=>?_
 refine q344 hm hT hC (q2zc (q2yv d) y2) h fun y3 h=>?_
 refine q9d ?_
 refine q344 hm hT hC (q2zg (q2yv d) y3) h fun y4 h=>?_
 refine q9e ?_
 refine q9j (G:=iter (q338 d )) (S:=(fun x1=>⟨[(1,.ptr 0 0),(3,.rs 1),(4,i6 x1.1)],[.cells [i6 x1.2.1,.fz Riii x1.2.2.1],.rows qkv x1.2.2.2]⟩:Int×Int×List Diii×List qkw→St)) (fun _=>rfl) ?_ d _ h
 intro n1 x1 h K1 hn1
 replace h:q338 d  (iter (q338 d ) n1) x1=some r:=h
 generalize iter (q338 d ) n1=self1 at h hn1
 unfold q338 at h
 refine q9d ?_
 refine q344 hm hT hC (q2zk (q2yv d) x1) h fun y5 h=>?_
 refine q9h (v:=y5.2.1) (by kernel_rfl) h ?_ ?_
 ·
  intro h
  refine q99 (q8z (q9d (q9e ?_)))
  refine q344 hm hT hC (q2zo (q2yv d) y5) h fun y7 h=>?_
  refine q9g (r:=r) (F:=q30x d self1) (S:=(fun z=>⟨[(1,.ptr 0 0),(3,.rs 1),(4,i6 z.1),(5,i6 z.2.1)],[.cells [i6 z.2.2.1,.fz Riii z.2.2.2.1],.rows qkv z.2.2.2.2]⟩:Int×Int×Int×List Diii×List qkw→St)) ?_ ?_
  ·
   intro z h
   unfold q30x at h
   refine q344 hm hT hC (q2zy (q2yv d) z) h fun y10 h=>?_
   refine q344 hm hT hC (q302 (q2yv d) y10) h fun y11 h=>?_
   refine q344 hm hT hC (q306 (q2yv d) y11) h fun y12 h=>?_
   refine q344 hm hT hC (q30a (q2yv d) y12) h fun y13 h=>?_
   refine q344 hm hT hC (q30e (q2yv d) y13) h fun y14 h=>?_
   refine q344 hm hT hC (q30i (q2yv d) y14) h fun y15 h=>?_
   refine q344 hm hT hC (q30m (q2yv d) y15) h fun y16 h=>?_
   refine q344 hm hT hC (q30q (q2yv d) y16) h fun y17 h=>?_
   refine q9h (v:=y17.2.1) (by kernel_rfl) h ?_ ?_
   ·
    intro h
    refine q344 hm hT hC (q30u (q2yv d) y17) h fun y18 h=>?_
    refine q9c (q93 (q91 (q91 (q93 (q91 ?_)))))
    cases h
    exact (hend _ (by kernel_rfl)).2
   ·
    intro h
    refine q99 (q92 (q8z ?_))
    refine q9i hm hT hC (q30w (q2yv d) y17) h ?_
    intro y6 h
    exact hn1 _ h
  intro hj2
  refine q344 hm hT hC (q2zs (q2yv d) y7) h fun y8 h=>?_
  refine q9h (v:=y8.2.2.1) (by kernel_rfl) h ?_ ?_
  ·
   intro h
   refine q9i hm hT hC (q2zu (q2yv d) y8) h ?_
   intro y9 h
   exact hj2 _ h
  ·
   intro h
   refine q99 ?_
   refine qe9 (s:=⟨[(1,.ptr 0 0),(3,.rs 1),(4,.int .i64 y8.1),(5,.int .i64 y8.2.1)],[.cells [.int .i64 y8.2.2.2.1,.fz Riii y8.2.2.2.2.1],.rows qkv y8.2.2.2.2.2]⟩) [112] (by kernel_rfl) ?_
   exact hj2 _ h
 ·
  intro h
  refine q9b (q90 (q90 (q94 (q8z ?_))))
  refine q344 hm hT hC (q311 (q2yv d) y5) h fun y19 h=>?_
  refine q344 hm hT hC (q315 (q2yv d) y19) h fun y20 h=>?_
  refine q344 hm hT hC (q319 (q2yv d) y20) h fun y21 h=>?_
  refine q344 hm hT hC (q31d (q2yv d) y21) h fun y22 h=>?_
  refine q344 hm hT hC (q31h (q2yv d) y22) h fun y23 h=>?_
  refine q344 hm hT hC (q31l (q2yv d) y23) h fun y24 h=>?_
  refine q344 hm hT hC (q31p (q2yv d) y24) h fun y25 h=>?_
  refine q344 hm hT hC (q31t (q2yv d) y25) h fun y26 h=>?_
  refine q344 hm hT hC (q31x (q2yv d) y26) h fun y27 h=>?_
  refine q344 hm hT hC (q321 (q2yv d) y27) h fun y28 h=>?_
  refine q344 hm hT hC (q325 (q2yv d) y28) h fun y29 h=>?_
  refine q344 hm hT hC (q329 (q2yv d) y29) h fun y30 h=>?_
  refine q344 hm hT hC (q32d (q2yv d) y30) h fun y31 h=>?_
  refine q344 hm hT hC (q32h (q2yv d) y31) h fun y32 h=>?_
  refine q344 hm hT hC (q32l (q2yv d) y32) h fun y33 h=>?_
  refine q344 hm hT hC (q32p (q2yv d) y33) h fun y34 h=>?_
  refine q344 hm hT hC (q32t (q2yv d) y34) h fun y35 h=>?_
  refine q344 hm hT hC (q32x (q2yv d) y35) h fun y36 h=>?_
  refine q344 hm hT hC (q331 (q2yv d) y36) h fun y37 h=>?_
  refine q344 hm hT hC (q335 (q2yv d) y37) h fun y38 h=>?_
  refine q344 hm hT hC (q337 (q2yv d) y38) h fun y39 h=>?_
  refine q9c ?_
  cases h
  exact (hend _ (by kernel_rfl)).2
end Go.Proofs.Ytoakhncbmpdacaa

namespace Go
open Go.ChangeShapes Go.WideShapes Go.ChangeAt Go.RowKit
section
variable {H:Type} {enc:TypeId×Value→H} {P:Program} {w:World} {base:Nat} {spare:Nat→Bool} {held:Bool}
end
end Go
namespace Go.Proofs.Ytoakhncbmpdacaa
open Go.ChangeShapes Go.WideShapes Go.ChangeAt Go.RowKit
theorem q33h:ownKnob Try.prog.godebug=none:=by kernel_rfl
end Go.Proofs.Ytoakhncbmpdacaa

namespace Go
open Go.ChangeShapes Go.WideShapes Go.ChangeAt Go.RowKit Go.Deep
theorem qe {α:Type} {cells:α→List Value} {k:Nat} (hk:∀ a,(cells a).length=k) (h0:0<k):∀ (l:List α) (j:Nat) (u:Value),(l.flatMap cells)[j]?=some u→∃ x,l[j / k]?=some x∧(cells x)[j % k]?=some u
  | [],j,u,h=>by simp at h
  | x :: l, j, u, h => by
    rw [List.flatMap_cons] at h
    rcases Nat.lt_or_ge j k with hj | hj
    · rw [List.getElem?_append_left (by rw [hk]; exact hj)] at h
      rw [Nat.div_eq_of_lt hj,Nat.mod_eq_of_lt hj]
      exact ⟨x,rfl,h⟩
    · rw [List.getElem?_append_right (by rw [hk]; exact hj), hk] at h
      obtain ⟨y,hy,hu⟩:=qe hk h0 l (j - k) u h
      obtain ⟨m,rfl⟩:∃ m,j=m+k:=⟨j - k,by omega⟩
      rw [Nat.add_sub_cancel] at hy hu
      rw [Nat.add_div_right _ h0,Nat.add_mod_right]
      exact ⟨y,by simpa using hy,hu⟩
theorem qc {α:Type} {cells:α→List Value} {k:Nat} (hk:∀ a,(cells a).length=k) (l:List α):(l.flatMap cells).length=l.length*k:=by
  induction l with
  | nil=>simp
  | cons x l ih=>rw [List.flatMap_cons,List.length_append,ih,hk,List.length_cons,Nat.add_mul];omega
section
variable {H:Type} {enc:TypeId×Value→H} {P:Program} {w:World} {base:Nat} {held:Bool}
end
end Go

namespace Go.Proofs.Ytoakhncbmpdacaa
open Go.ChangeShapes Go.WideShapes Go.ChangeAt Go.RowKit Go.Pel Go.Deep
section
variable {H:Type} {enc:TypeId×Value→H} {w:World} {base:Nat} {spare:Nat→Bool} {held:Bool}
end
end Go.Proofs.Ytoakhncbmpdacaa
