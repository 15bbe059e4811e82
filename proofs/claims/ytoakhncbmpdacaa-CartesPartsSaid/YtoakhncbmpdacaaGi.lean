/- Walks of the references; the orders agree; examples. -/
import Derived.Test.YtoakhncbmpdacaaRows
import Derived.ProofKit
import Derived.OpenShut
import Derived.ShutString
import Derived.ChangeOld
import Derived.Deep.Slices
import Derived.Test.YtoakhncbmpdacaaGh
set_option linter.unusedSimpArgs false
set_option linter.unusedVariables false
namespace Go.Proofs.Ytoakhncbmpdacaa
open Go Go.Tx Go.Proofs.Try
set_option maxRecDepth 100000
set_option maxHeartbeats 0
abbrev q2ud:List Pk:=[]
abbrev q2ue:Type:=Unit
abbrev q2uf:Type:=List Diii
def q2ug (r:q2uf):LV×List Ob:=(.agg [.rs 0],[.rows Riii r])
def q2uh (F:q2ue→Option q2uf):Go.Tx.Spec:=⟨38,q2ud,q2uf,F,q2ug⟩
abbrev q2ui:Type:=Unit
def q2uj (_d:Nat):q2ui:=()
def q2uk (C:q2ui):List Go.Tx.Spec:=[]
abbrev q2ul:Type:=Unit
def q2um (v:q2ul):St:=⟨[],[]⟩
abbrev q2un:Type:=List Diii
def q2uo (v:q2un):St:=⟨[(0,.ptr 0 0)],[.cells [.rs 1],.rows Riii v]⟩
def q2up (C:q2ui) (v:q2ul):Dt q2un:=(Dt.ret ([]:List Diii))
abbrev q35l {V Y:Type}:=@rg q2ui V Y tysT (fun C=>(orc (q2uk C))) 6
theorem q2uq C v:q35l (regO (qea f38) 0) false [(0,(.box [.own Riii]))] q2um q2up q2uo C v:=rgI (by kernel_rfl)
def q2ur (C:q2ui) (v:q2un):Dt q2un:=(Dt.ret ([((1:Int),(0:Int),(2:Int),()),((2:Int),(6:Int),(-1:Int),()),((5:Int),(0:Int),(0:Int),())]:List Diii))
theorem q2us C v:q35l (regO (qea f38) 1) false [(0,(.box [.own Riii]))] q2uo q2ur q2uo C v:=rgI (by kernel_rfl)
def q2ut (d:Nat) (x:q2ue):Option q2uf :=
 (q2up (q2uj d) ()).eval fun y0 =>
 (q2ur (q2uj d) y0).eval fun y1 =>
 some y1
theorem q2uu (d:Nat):COK prog (q2uh (q2ut d)):=by
 have hm:prog.follows .mixedOrders=true:=mixed
 have hT:=tys
 have hC0:OrcOK prog (orc (q2uk (q2uj d))):=qe4 (by
  intro S hS
  simp only [q2uk,List.mem_cons,List.not_mem_nil,or_false] at hS
  all_goals first | cases hS | exact hS.elim)
 have hC:OrcOK prog (orc (q2uk (q2uj d))):=hC0
 refine q9t (c:=qea f38) (fn:=f38) hT (by kernel_rfl) (by kernel_rfl) (by decide) fun x r h w0 φ0 Q hend=>?_
 replace h:q2ut d x=some r:=h
 unfold q2ut at h
 show Run prog w0 φ0 6 (qea f38) ⟨[],[]⟩ Q
 refine q344 hm hT hC (q2uq (q2uj d) ()) h fun y0 h=>?_
 refine q344 hm hT hC (q2us (q2uj d) y0) h fun y1 h=>?_
 refine q9c ?_
 cases h
 exact (hend _ (by kernel_rfl)).2
abbrev q2uv:List Pk:=[.row Ri false]
abbrev q2uw:Type:=Di×Unit
abbrev q2ux:Type:=Int×Int
def q2uy (r:q2ux):LV×List Ob:=(.agg [.int .i64 r.1,.int .i64 r.2],[])
def q2uz (F:q2uw→Option q2ux):Go.Tx.Spec:=⟨40,q2uv,q2ux,F,q2uy⟩
abbrev q2v0:Type:=Unit
def q2v1 (_d:Nat):q2v0:=()
def q2v2 (C:q2v0):List Go.Tx.Spec:=[]
abbrev q2v3:Type:=Int
def q2v4 (v:q2v3):St:=⟨[(0,i6 v)],[]⟩
abbrev q2v5:Type:=Int×Int×Int
def q2v6 (v:q2v5):St:=⟨[(0,i6 v.1),(2,.ptr 0 0)],[.cells [i6 v.2.1,i6 v.2.2]]⟩
def q2v7 (C:q2v0) (v:q2v3):Dt q2v5:=(Dt.ret (v,(0:Int),(0:Int)))
abbrev q35m {V Y:Type}:=@rg q2v0 V Y tysT (fun C=>(orc (q2v2 C))) 5
theorem q2v8 C v:q35m (regO (qea f40) 0) false (an [0,2]) q2v4 q2v7 q2v6 C v:=rgI (by kernel_rfl)
abbrev q2v9:Type:=Int×Int
def q2va (v:q2v9):St:=⟨[(2,.ptr 0 0)],[.cells [i6 v.1,i6 v.2]]⟩
def q2vb (C:q2v0) (v:q2v5):Dt q2v9:=(Dt.ret (v.1,(1:Int)))
theorem q2vc C v:q35m (regO (qea f40) 1) false [(2,.any)] q2v6 q2vb q2va C v:=rgI (by kernel_rfl)
def q2vd (d:Nat) (x:q2uw):Option q2ux :=
 (q2v7 (q2v1 d) x.1.1).eval fun y0 =>
 (q2vb (q2v1 d) y0).eval fun y1 =>
 some y1
theorem q2ve (d:Nat):COK prog (q2uz (q2vd d)):=by
 have hm:prog.follows .mixedOrders=true:=mixed
 have hT:=tys
 have hC0:OrcOK prog (orc (q2v2 (q2v1 d))):=qe4 (by
  intro S hS
  simp only [q2v2,List.mem_cons,List.not_mem_nil,or_false] at hS
  all_goals first | cases hS | exact hS.elim)
 have hC:OrcOK prog (orc (q2v2 (q2v1 d))):=hC0
 refine q9t (c:=qea f40) (fn:=f40) hT (by kernel_rfl) (by kernel_rfl) (by decide) fun x r h w0 φ0 Q hend=>?_
 replace h:q2vd d x=some r:=h
 unfold q2vd at h
 show Run prog w0 φ0 5 (qea f40) ⟨[(0,.int .i64 x.1.1)],[]⟩ Q
 refine q344 hm hT hC (q2v8 (q2v1 d) x.1.1) h fun y0 h=>?_
 refine q344 hm hT hC (q2vc (q2v1 d) y0) h fun y1 h=>?_
 refine q9c ?_
 cases h
 exact (hend _ (by kernel_rfl)).2
abbrev q2vf:List Pk:=[]
abbrev q2vg:Type:=Unit
abbrev q2vh:Type:=Int×List Diii
def q2vi (r:q2vh):LV×List Ob:=(.agg [.int .i64 r.1,.rs 0],[.rows Riii r.2])
def q2vj (F:q2vg→Option q2vh):Go.Tx.Spec:=⟨41,q2vf,q2vh,F,q2vi⟩
abbrev q2vk:Type:=Unit
def q2vl (_d:Nat):q2vk:=()
def q2vm (C:q2vk):List Go.Tx.Spec:=[]
abbrev q2vn:Type:=Unit
def q2vo (v:q2vn):St:=⟨[],[]⟩
abbrev q2vp:Type:=Int×List Diii
def q2vq (v:q2vp):St:=⟨[(0,.ptr 0 0)],[.cells [i6 v.1,.rs 1],.rows Riii v.2]⟩
def q2vr (C:q2vk) (v:q2vn):Dt q2vp:=(Dt.ret ((0:Int),([]:List Diii)))
abbrev q35n {V Y:Type}:=@rg q2vk V Y tysT (fun C=>(orc (q2vm C))) 6
theorem q2vs C v:q35n (regO (qea f41) 0) false [(0,(.box [.any,.own Riii]))] q2vo q2vr q2vq C v:=rgI (by kernel_rfl)
def q2vt (C:q2vk) (v:q2vp):Dt q2vp:=(Dt.ret ((0:Int),([((1:Int),(-1:Int),(1:Int),()),((2:Int),(-1:Int),(2:Int),()),((5:Int),(-1:Int),(-1:Int),())]:List Diii)))
theorem q2vu C v:q35n (regO (qea f41) 1) false [(0,(.box [.any,.own Riii]))] q2vq q2vt q2vq C v:=rgI (by kernel_rfl)
def q2vv (d:Nat) (x:q2vg):Option q2vh :=
 (q2vr (q2vl d) ()).eval fun y0 =>
 (q2vt (q2vl d) y0).eval fun y1 =>
 some y1
theorem q2vw (d:Nat):COK prog (q2vj (q2vv d)):=by
 have hm:prog.follows .mixedOrders=true:=mixed
 have hT:=tys
 have hC0:OrcOK prog (orc (q2vm (q2vl d))):=qe4 (by
  intro S hS
  simp only [q2vm,List.mem_cons,List.not_mem_nil,or_false] at hS
  all_goals first | cases hS | exact hS.elim)
 have hC:OrcOK prog (orc (q2vm (q2vl d))):=hC0
 refine q9t (c:=qea f41) (fn:=f41) hT (by kernel_rfl) (by kernel_rfl) (by decide) fun x r h w0 φ0 Q hend=>?_
 replace h:q2vv d x=some r:=h
 unfold q2vv at h
 show Run prog w0 φ0 6 (qea f41) ⟨[],[]⟩ Q
 refine q344 hm hT hC (q2vs (q2vl d) ()) h fun y0 h=>?_
 refine q344 hm hT hC (q2vu (q2vl d) y0) h fun y1 h=>?_
 refine q9c ?_
 cases h
 exact (hend _ (by kernel_rfl)).2
abbrev q2vx:List Pk:=[]
abbrev q2vy:Type:=Unit
abbrev q2vz:Type:=Bool
def q2w0 (r:q2vz):LV×List Ob:=(.bool r,[])
def q2w1 (F:q2vy→Option q2vz):Go.Tx.Spec:=⟨33,q2vx,q2vz,F,q2w0⟩
abbrev q2w2:Type:=(q132→Option q133)×(q10g→Option q10h)×(q1ba→Option q1bb)×(q2fw→Option q2fx)×(q2ue→Option q2uf)×(q2uw→Option q2ux)×(q2vg→Option q2vh)×Unit
def q2w3 (d:Nat):q2w2:=(q15h d,q125 d,q1ce d,q2ke d,q2ut d,q2vd d,q2vv d,())
def q2w4 (C:q2w2):List Go.Tx.Spec:=[q135 C.1,q10j C.2.1,q1bd C.2.2.1,q2fz C.2.2.2.1,q2uh C.2.2.2.2.1,q2uz C.2.2.2.2.2.1,q2vj C.2.2.2.2.2.2.1]
abbrev q2w5:Type:=Unit
def q2w6 (v:q2w5):St:=⟨[],[]⟩
def q2w7 (C:q2w2) (v:q2w5):Dt q2w5:=(Dt.ret ())
abbrev q35o {V Y:Type}:=@rg q2w2 V Y tysT (fun C=>(orc (q2w4 C))) 80
theorem q2w8 C v:q35o (regO (qea f33) 0) false [] q2w6 q2w7 q2w6 C v:=rgI (by kernel_rfl)
abbrev q2w9:Type:=Int×Int×List Diii
def q2wa (v:q2w9):St:=⟨[(1,.ptr 0 0),(2,i6 v.1)],[.cells [i6 v.2.1,.rs 1],.rows Riii v.2.2]⟩
def q2wb (C:q2w2) (v:q2w5):Dt q2w9:=(Dt.bnd (C.2.2.2.2.1 (())) fun r1=>(Dt.bnd (C.2.2.2.2.2.1 (((0:Int),()),())) fun r2=>(Dt.bnd (C.1 ((r1,()),(r2.1,r2.2,()),())) fun r3=>(Dt.ret (r3.2.2,r3.1,r3.2.1)))))
theorem q2wc C v:q35o (regO (qea f33) 1) false [(1,(.box [.any,.own Riii])),(2,.any)] q2w6 q2wb q2wa C v:=rgI (by kernel_rfl)
abbrev q2wd:Type:=Int×Int×Int×List Diii×Int×List Diii
def q2we (v:q2wd):St:=⟨[(1,.ptr 0 0),(2,i6 v.1),(3,.ptr 2 0),(4,i6 v.2.1)],[.cells [i6 v.2.2.1,.rs 1],.rows Riii v.2.2.2.1,.cells [i6 v.2.2.2.2.1,.rs 3],.rows Riii v.2.2.2.2.2]⟩
def q2wf (C:q2w2) (v:q2w9):Dt q2wd:=(Dt.bnd (C.2.2.2.2.1 (())) fun r1=>(Dt.bnd (C.2.2.2.2.2.1 (((2:Int),()),())) fun r2=>(Dt.bnd (C.1 ((r1,()),(r2.1,r2.2,()),())) fun r3=>(Dt.ret (v.1,r3.2.2,v.2.1,v.2.2,r3.1,r3.2.1)))))
theorem q2wg C v:q35o (regO (qea f33) 2) false [(1,(.box [.any,.own Riii])),(2,.any),(3,(.box [.any,.own Riii])),(4,.any)] q2wa q2wf q2we C v:=rgI (by kernel_rfl)
abbrev q2wh:Type:=Int×Int×Int×Int×Int×List Diii×Int×List Diii
def q2wi (v:q2wh):St:=⟨[(1,.ptr 0 0),(2,i6 v.1),(3,.ptr 2 0),(4,i6 v.2.1),(5,i6 v.2.2.1),(6,i6 v.2.2.2.1)],[.cells [i6 v.2.2.2.2.1,.rs 1],.rows Riii v.2.2.2.2.2.1,.cells [i6 v.2.2.2.2.2.2.1,.rs 3],.rows Riii v.2.2.2.2.2.2.2]⟩
def q2wj (C:q2w2) (v:q2wd):Dt q2wh:=(Dt.bnd (C.2.1 ((v.2.2.2.2.1,v.2.2.2.2.2,()),((5:Int),()),())) fun r1=>(Dt.ret (v.1,v.2.1,r1.1,r1.2,v.2.2.1,v.2.2.2.1,v.2.2.2.2.1,v.2.2.2.2.2)))
theorem q2wk C v:q35o (regO (qea f33) 3) false [(1,(.box [.any,.own Riii])),(2,.any),(3,(.box [.any,.own Riii])),(4,.any),(5,.any),(6,.any)] q2we q2wj q2wi C v:=rgI (by kernel_rfl)
abbrev q2wl:Type:=Int×Int×Int×Int×Int×Int×List Diii×Int×List Diii×Int×List Diii×Int×List Diii
def q2wm (v:q2wl):St:=⟨[(1,.ptr 0 0),(2,i6 v.1),(3,.ptr 2 0),(4,i6 v.2.1),(5,i6 v.2.2.1),(6,i6 v.2.2.2.1),(7,.ptr 4 0),(8,.ptr 6 0),(9,i6 v.2.2.2.2.1)],[.cells [i6 v.2.2.2.2.2.1,.rs 1],.rows Riii v.2.2.2.2.2.2.1,.cells [i6 v.2.2.2.2.2.2.2.1,.rs 3],.rows Riii v.2.2.2.2.2.2.2.2.1,.cells [i6 v.2.2.2.2.2.2.2.2.2.1,.rs 5],.rows Riii v.2.2.2.2.2.2.2.2.2.2.1,.cells [i6 v.2.2.2.2.2.2.2.2.2.2.2.1,.rs 7],.rows Riii v.2.2.2.2.2.2.2.2.2.2.2.2]⟩
def q2wn (C:q2w2) (v:q2wh):Dt q2wl:=(Dt.bnd (C.2.2.2.1 ((v.2.2.2.2.2.2.1,v.2.2.2.2.2.2.2,()),((2:Int),()),())) fun r1=>(Dt.ret (v.1,v.2.1,v.2.2.1,v.2.2.2.1,r1.2.2.2.2,v.2.2.2.2.1,v.2.2.2.2.2.1,v.2.2.2.2.2.2.1,v.2.2.2.2.2.2.2,r1.1,r1.2.1,r1.2.2.1,r1.2.2.2.1)))
theorem q2wo C v:q35o (regO (qea f33) 4) false [(1,(.box [.any,.own Riii])),(2,.any),(3,(.box [.any,.own Riii])),(4,.any),(5,.any),(6,.any),(7,(.box [.any,.own Riii])),(8,(.box [.any,.own Riii])),(9,.any)] q2wi q2wn q2wm C v:=rgI (by kernel_rfl)
abbrev q2wp:Type:=Bool
def q2wq (v:q2wp):St:=⟨[(0,.bool v)],[]⟩
def q2wr (C:q2w2) (v:q2wl):Dt q2wp:=(Dt.ite (v.1 == (0:Int)) (Dt.bnd (C.2.2.1 ((v.2.2.2.2.2.1,v.2.2.2.2.2.2.1,()),((1:Int),([((1:Int),(-1:Int),(-1:Int),()),((2:Int),(0:Int),(2:Int),()),((5:Int),(-1:Int),(-1:Int),())]:List Diii),()),())) fun r1=>(Dt.ite r1 (Dt.ite (v.2.1 == (0:Int)) (Dt.bnd (C.2.2.2.2.2.2.1 (())) fun r2=>(Dt.bnd (C.2.2.1 ((v.2.2.2.2.2.2.2.1,v.2.2.2.2.2.2.2.2.1,()),(r2.1,r2.2,()),())) fun r3=>(Dt.ite r3 (Dt.ite (v.2.2.2.1 == (0:Int)) (Dt.ite (v.2.2.1 == (2:Int)) (Dt.ite (v.2.2.2.2.1 == (0:Int)) (Dt.bnd (C.2.2.1 ((v.2.2.2.2.2.2.2.2.2.1,v.2.2.2.2.2.2.2.2.2.2.1,()),((0:Int),([((1:Int),(-1:Int),(-1:Int),())]:List Diii),()),())) fun r4=>(Dt.ite r4 (Dt.bnd (C.2.2.1 ((v.2.2.2.2.2.2.2.2.2.2.2.1,v.2.2.2.2.2.2.2.2.2.2.2.2,()),((0:Int),([((2:Int),(-1:Int),(1:Int),()),((5:Int),(-1:Int),(-1:Int),())]:List Diii),()),())) fun r5=>(Dt.ret r5)) (Dt.ret false))) (Dt.ret false)) (Dt.ret false)) (Dt.ret false)) (Dt.ret false)))) (Dt.ret false)) (Dt.ret false))) (Dt.ret false))
theorem q2ws C v:q35o (regO (qea f33) 5) true [(0,.any)] q2wm q2wr q2wq C v:=rgI (by kernel_rfl)
def q2wt (d:Nat) (x:q2vy):Option q2vz :=
 (q2w7 (q2w3 d) ()).eval fun y0 =>
 (q2wb (q2w3 d) ()).eval fun y1 =>
 (q2wf (q2w3 d) y1).eval fun y2 =>
 (q2wj (q2w3 d) y2).eval fun y3 =>
 (q2wn (q2w3 d) y3).eval fun y4 =>
 (q2wr (q2w3 d) y4).eval fun y5 =>
 some y5
theorem q2wu (d:Nat):COK prog (q2w1 (q2wt d)):=by
 have hm:prog.follows .mixedOrders=true:=mixed
 have hT:=tys
 have hC0:OrcOK prog (orc (q2w4 (q2w3 d))):=qe4 (by
  intro S hS
  simp only [q2w4,List.mem_cons,List.not_mem_nil,or_false] at hS
  rcases hS with rfl | rfl | rfl | rfl | rfl | rfl | rfl
  · exact q15i d
  · exact q126 d
  · exact q1cf d
  · exact q2kf d
  · exact q2uu d
  · exact q2ve d
  · exact q2vw d)
 have hC:OrcOK prog (orc (q2w4 (q2w3 d))):=hC0
 refine q9t (c:=qea f33) (fn:=f33) hT (by kernel_rfl) (by kernel_rfl) (by decide) fun x r h w0 φ0 Q hend=>?_
 replace h:q2wt d x=some r:=h
 unfold q2wt at h
 show Run prog w0 φ0 80 (qea f33) ⟨[],[]⟩ Q
 refine q344 hm hT hC (q2w8 (q2w3 d) ()) h fun y0 h=>?_
 refine q344 hm hT hC (q2wc (q2w3 d) ()) h fun y1 h=>?_
 refine q344 hm hT hC (q2wg (q2w3 d) y1) h fun y2 h=>?_
 refine q344 hm hT hC (q2wk (q2w3 d) y2) h fun y3 h=>?_
 refine q344 hm hT hC (q2wo (q2w3 d) y3) h fun y4 h=>?_
 refine q344 hm hT hC (q2ws (q2w3 d) y4) h fun y5 h=>?_
 refine q9c ?_
 cases h
 exact (hend _ (by kernel_rfl)).2
end Go.Proofs.Ytoakhncbmpdacaa

namespace Go
open Go.ChangeShapes Go.WideShapes Go.ChangeAt Go.RowKit
section
variable {H:Type} {enc:TypeId×Value→H} {P:Program} {w:World} {base:Nat} {spare:Nat→Bool} {held:Bool}
theorem q33b {t:TypeId} {fs:Array Field} {fuel:Nat} {cs:List Value} {x:DataW H×List MemPlace} (hs:P.underlying t=some (.struct fs)) (h:DataW.trod enc P w base spare held fuel t cs=some x)
    {i:Nat} {f:Field} (hf:fs[i]?=some f) {off n:Nat} {ft:TypeId} (ho:f.offset=off) (ht:f.type=ft) (hn:P.cellsOf ft=n):∃ m y,DataW.trod enc P w base spare held m ft ((cs.drop off).take n)=some y:=by
  obtain ⟨xs,m,_,_,_,hlen,hg⟩:=DataW.trod_struct hs h
  have h1:=hg i f hf
  subst ho ht hn
  have hi:i<xs.length:=by rw [hlen];exact (Array.getElem?_eq_some_iff.1 hf).1
  exact ⟨m,xs[i],by rw [h1,List.getElem?_eq_getElem hi]⟩
theorem q33c {t:TypeId} {k:IntKind} {fuel:Nat} {cs:List Value} {x:DataW H×List MemPlace} (ht:P.underlying t=some (.int k)) (h:DataW.trod enc P w base spare held fuel t cs=some x):∃ n,cs=[.int k n]∧(Lit.int k n).wf=true:=by
  obtain ⟨n,h1,_,h2⟩:=DataW.trod_int ht h;exact ⟨n,h1,h2⟩
theorem q33d {n:Int} (h:(Lit.int .i64 n).wf=true):-9223372036854775808≤n∧n≤9223372036854775807:=bounds_i64 h
end
end Go
namespace Go.Proofs.Ytoakhncbmpdacaa
open Go.ChangeShapes Go.WideShapes Go.ChangeAt Go.RowKit
theorem q33h:ownKnob Try.prog.godebug=none:=by kernel_rfl
theorem q33i:laidOutB Try.prog=true:=by kernel_rfl
end Go.Proofs.Ytoakhncbmpdacaa

namespace Go
open Go.ChangeShapes Go.WideShapes Go.ChangeAt Go.RowKit Go.Deep
theorem q33j {α:Type} {p:Nat→α→Prop}:∀ n:Nat,(∀ i,i<n→∃ v,p i v)→∃ l:List α,l.length=n∧∀ (i:Nat) (x:α),l[i]?=some x→p i x
  | 0,_=>⟨[],rfl,fun i x h=>by simp at h⟩
  | n + 1, h => by
    obtain ⟨l,hl,hp⟩:=q33j n fun i hi=>h i (by omega)
    obtain ⟨v,hv⟩:=h n (by omega)
    refine ⟨l ++ [v],by simp [hl],fun i x hx=>?_⟩
    rcases Nat.lt_or_ge i n with hi | hi
    · rw [List.getElem?_append_left (by omega)] at hx;exact hp i x hx
    · rw [List.getElem?_append_right (by omega)] at hx
      have:i=n:=by
        have:=(List.getElem?_eq_some_iff.1 hx).1
        simp at this;omega
      subst this
      simp [hl] at hx
      subst hx;exact hv
theorem qe {α:Type} {cells:α→List Value} {k:Nat} (hk:∀ a,(cells a).length=k) (h0:0<k):∀ (l:List α) (j:Nat) (u:Value),(l.flatMap cells)[j]?=some u→∃ x,l[j / k]?=some x∧(cells x)[j % k]?=some u
  | [],j,u,h=>by simp at h
  | x :: l, j, u, h => by
    rw [List.flatMap_cons] at h
    rcases Nat.lt_or_ge j k with hj | hj
    · rw [List.getElem?_append_left (by rw [hk]; exact hj)] at h
      rw [Nat.div_eq_of_lt hj,Nat.mod_eq_of_lt hj]
      exact ⟨x,rfl,h⟩
    · rw [List.getElem?_append_right (by rw [hk]; exact hj), hk] at h
      obtain ⟨y,hy,hu⟩:=qe hk h0 l (j - k) u h
      obtain ⟨m,rfl⟩:∃ m,j=m+k:=⟨j - k,by omega⟩
      rw [Nat.add_sub_cancel] at hy hu
      rw [Nat.add_div_right _ h0,Nat.add_mod_right]
      exact ⟨y,by simpa using hy,hu⟩
theorem qc {α:Type} {cells:α→List Value} {k:Nat} (hk:∀ a,(cells a).length=k) (l:List α):(l.flatMap cells).length=l.length*k:=by
  induction l with
  | nil=>simp
  | cons x l ih=>rw [List.flatMap_cons,List.length_append,ih,hk,List.length_cons,Nat.add_mul];omega
section
variable {H:Type} {enc:TypeId×Value→H} {P:Program} {w:World} {base:Nat} {held:Bool}
theorem q33k {t e:TypeId} {fuel:Nat} {A:Option Addr} {n c:Nat} {x:DataW H×List MemPlace} (ht:P.underlying t=some (.slice e))
    (h:DataW.trod enc P w base (fun _=>true) held fuel t [Value.slice A n c]=some x):A=none→c=0:=by
  rcases open_slice ht h with ⟨hcs,_⟩ | ⟨a,len,cap,m,q,D,Pl,hcs,_⟩
  · simp only [List.cons.injEq, and_true] at hcs
    injection hcs with h1 h2 h3
    intro _;exact h3
  · simp only [List.cons.injEq, and_true] at hcs
    injection hcs with h1 h2 h3
    subst h1;intro h;cases h
theorem q33l {α:Type} (cells:α→List Value) (ok:α→Prop) {t e:TypeId} {k fuel:Nat} {A:Option Addr} {n c:Nat} {x:DataW H×List MemPlace}
    (ht:P.underlying t=some (.slice e)) (hC:P.cellsOf e=k) (h0:0<k) (hk:∀ a,(cells a).length=k)
    (hR:∀ (m:Nat) (l:List Value) (y:DataW H×List MemPlace),DataW.trod enc P w base (fun _=>true) held m e l=some y→l.length=k→∃ a,l=cells a∧ok a)
    (h:DataW.trod enc P w base (fun _=>true) held fuel t [Value.slice A n c]=some x) :
    ∃ l:List α,l.length=n∧Sl w k A l.length c (l.flatMap cells)∧(∀ a∈l,ok a)∧(A=none→c=0)∧c≤maxLen:=by
  rcases open_slice ht h with ⟨hcs,_⟩ | ⟨a,len,cap,m,q,D,Pl,hcs,_,hl,hmx,hm,_,hi⟩
  · simp only [List.cons.injEq, and_true] at hcs
    injection hcs with h1 h2 h3
    subst h1 h2 h3
    exact ⟨[],rfl,Sl.nil_ _ _ _ _,(fun _ h=>by cases h),(fun _=>rfl),Nat.zero_le _⟩
  · simp only [List.cons.injEq, and_true] at hcs
    injection hcs with h1 h2 h3
    subst h1 h2 h3
    simp only [if_true] at hm
    subst hm
    obtain ⟨l,hll,hp⟩:=q33j (α:=α) (p:=fun i v=>(∀ j u,(cells v)[j]?=some u→w.cell? (a.add (i*k+j))=some u)∧ok v) n (fun i hin=>by
      obtain ⟨cs',hc,ht'⟩:=hi i (by omega)
      rw [hC] at hc
      obtain ⟨_,hcl,hat⟩:=World.cells?_some hc
      obtain ⟨v,rfl,hv⟩:=hR _ _ _ ht' hcl
      refine ⟨v,fun j u hu=>?_,hv⟩
      have hj:j<k:=by rw [← hk v];exact (List.getElem?_eq_some_iff.1 hu).1
      rw [← Go.Deep.add_add,hat j hj,hu])
    refine ⟨l,hll,⟨by omega,by rw [qc hk,hll],fun hn=>?_⟩,fun v hv=>?_,(fun h=>by cases h),hmx⟩
    · obtain ⟨v0, hv0⟩ : ∃ v, l[0]? = some v := ⟨_, List.getElem?_eq_getElem (by omega)⟩
      obtain ⟨u0,hu0⟩:∃ u,(cells v0)[0]?=some u:=⟨_,List.getElem?_eq_getElem (by rw [hk];exact h0)⟩
      have hc0:=(hp 0 v0 hv0).1 0 u0 hu0
      obtain ⟨b,o,spot⟩:=a
      have hspot:spot=none:=by simpa [Addr.add] using World.cell?_spot hc0
      subst hspot
      refine ⟨b,o,rfl,?_,fun j u hu=>?_⟩
      · have hb := World.block_lt_of_cell? w _ hc0
        simpa [Addr.add] using hb
      · obtain ⟨v, hv, huv⟩ := qe hk h0 l j u hu
        have h1:=(hp _ v hv).1 _ u huv
        have e0:j / k*k+j % k=j:=by rw [Nat.mul_comm];exact Nat.div_add_mod j k
        rw [e0] at h1
        have e1:(⟨b,o,none⟩:Addr).add j=⟨b,o+j,none⟩:=by
          unfold Addr.add;split
          · rename_i h0;rw [h0];rfl
          · rfl
        rw [e1] at h1;exact h1
    · obtain ⟨i, hi'⟩ := List.getElem?_of_mem hv
      exact (hp i v hi').2
end
end Go

namespace Go.Proofs.Ytoakhncbmpdacaa
open Go.ChangeShapes Go.WideShapes Go.ChangeAt Go.RowKit Go.Pel Go.Deep
theorem q33m {α:Type} (l:List α) (h:l.length=1):∃ a,l=[a]:=by
  match l,h with
  | [a],_=>exact ⟨a,rfl⟩
theorem q33n {α:Type} (l:List α) (h:l.length=2):∃ a b,l=[a,b]:=by
  match l,h with
  | [a,b],_=>exact ⟨a,b,rfl⟩
theorem q33o {α:Type} (l:List α) (h:l.length=3):∃ a b c,l=[a,b,c]:=by
  match l,h with
  | [a,b,c],_=>exact ⟨a,b,c,rfl⟩
section
variable {H:Type} {enc:TypeId×Value→H} {w:World} {base:Nat} {spare:Nat→Bool} {held:Bool}
theorem q33p:Try.prog.cellsOf 3=1:=by kernel_rfl
theorem q33q:Try.prog.cellsOf 2=1:=by kernel_rfl
theorem q33r:Try.prog.cellsOf 75=3:=by kernel_rfl
theorem q33s:Try.prog.cellsOf 24=1:=by kernel_rfl
theorem q33t:Try.prog.cellsOf 22=1:=by kernel_rfl
theorem q33u {fuel:Nat} {l:List Value} {x:DataW H×List MemPlace} (h:DataW.trod enc Try.prog w base spare held fuel 75 l=some x) (hl:l.length=3) :
    ∃ p:Pt,l=[.int .i64 p.id,.int .i64 p.a,.int .i64 p.b]∧p.Fits:=by
  obtain ⟨c0,c1,c2,rfl⟩:=q33o l hl
  obtain ⟨m4,y4,h4⟩:=q33b Try.underlying75 h (i:=0) rfl rfl rfl q33p
  obtain ⟨m5,y5,h5⟩:=q33b Try.underlying75 h (i:=1) rfl rfl rfl q33q
  obtain ⟨m6,y6,h6⟩:=q33b Try.underlying75 h (i:=2) rfl rfl rfl q33q
  obtain ⟨i,e4,w4⟩:=q33c Try.underlying3 h4
  obtain ⟨a,e5,w5⟩:=q33c Try.underlying2 h5
  obtain ⟨b,e6,w6⟩:=q33c Try.underlying2 h6
  simp at e4 e5 e6
  subst e4 e5 e6
  exact ⟨⟨i,a,b⟩,rfl,⟨q33d w4,q33d w5,q33d w6⟩⟩
theorem q33v (fuel:Nat) (l:List Value) (x:DataW H×List MemPlace) (h:DataW.trod enc Try.prog w base spare held fuel 75 l=some x) (hl:l.length=3):∃ p:Pt,l=p.cells∧p.Fits:=q33u h hl
theorem q33w {fuel:Nat} {l:List Value} {x:DataW H×List MemPlace} (h:DataW.trod enc Try.prog w base (fun _=>true) held fuel 24 l=some x) (hl:l.length=1) :
    ∃ (A:Option Addr) (c:Nat) (m:List Pt),l=[.slice A m.length c]∧Sl w 3 A m.length c (vp m)∧(A=none→c=0)∧∀ p∈m,p.Fits:=by
  obtain ⟨c0,rfl⟩:=q33m l hl
  obtain ⟨m0,y0,h0⟩:=q33b Try.underlying24 h (i:=0) rfl rfl rfl q33t
  have h0':DataW.trod enc Try.prog w base (fun _=>true) held m0 22 [c0]=some y0:=by simpa using h0
  obtain ⟨A,n,c,rfl⟩:∃ A n c,c0=Value.slice A n c:=by
    rcases open_slice Try.underlying22 h0' with ⟨hcs,_⟩ | ⟨a,len,cap,m,q,D,Pl,hcs,_⟩
    · simp only [List.cons.injEq,and_true] at hcs;exact ⟨_,_,_,hcs⟩
    · simp only [List.cons.injEq,and_true] at hcs;exact ⟨_,_,_,hcs⟩
  have hn:=q33k Try.underlying22 h0'
  obtain ⟨pts,rfl,hs,hok,_,_⟩:=q33l Pt.cells Pt.Fits Try.underlying22 q33r (by decide) (fun _=>rfl) q33v h0'
  exact ⟨A,c,pts,rfl,hs,hn,hok⟩
theorem q33x:Try.prog.cellsOf 26=2:=by kernel_rfl
theorem q33y {fuel:Nat} {l:List Value} {x:DataW H×List MemPlace} (h:DataW.trod enc Try.prog w base spare held fuel 26 l=some x) (hl:l.length=2) :
    ∃ n d:Int,l=[.int .i64 n,.int .i64 d]∧(-9223372036854775808≤n∧n≤9223372036854775807)∧(-9223372036854775808≤d∧d≤9223372036854775807):=by
  obtain ⟨c0,c1,rfl⟩:=q33n l hl
  obtain ⟨m4,y4,h4⟩:=q33b Try.underlying26 h (i:=0) rfl rfl rfl q33q
  obtain ⟨m5,y5,h5⟩:=q33b Try.underlying26 h (i:=1) rfl rfl rfl q33q
  obtain ⟨n,e4,w4⟩:=q33c Try.underlying2 h4
  obtain ⟨d,e5,w5⟩:=q33c Try.underlying2 h5
  simp at e4 e5
  subst e4 e5
  exact ⟨n,d,rfl,q33d w4,q33d w5⟩
end
end Go.Proofs.Ytoakhncbmpdacaa
