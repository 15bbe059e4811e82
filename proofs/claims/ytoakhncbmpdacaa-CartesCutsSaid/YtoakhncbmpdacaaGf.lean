/- Walks of the references; the orders agree; examples. -/
import Derived.Lib.SliceRun
import Derived.Test.YtoakhncbmpdacaaGe
set_option linter.unusedSimpArgs false
set_option linter.unusedVariables false
namespace Go.Proofs.Ytoakhncbmpdacaa
open Go Go.Tx Go.Proofs.Try
set_option maxRecDepth 100000
set_option maxHeartbeats 0
abbrev q1kp:List Pk:=[.row qkv true,.row Ri false]
abbrev q1kq:List Pk:=[]
abbrev q1kr:Type:=(qkw×Di×Unit)×(Unit)×List Di
abbrev q1ks:Type:=List Di
def q1kt (F:q1kr→Option q1ks):CSpec:=⟨78,q1kp,q1kq,Ri,fun a b c=>F (a,b,c)⟩
abbrev q1ku:Type:=(q1kr→Option q1ks)×Unit
def q1kv (d:Nat) (me:(q1kr→Option q1ks)):q1ku:=(me,())
def q1kw (C:q1ku):List Go.Tx.Spec:=[]
abbrev q1kx:Type:=Int×List Diii×Int×List Di
def q1ky (v:q1kx):St:=⟨[(0,.agg [i6 v.1,.fz Riii v.2.1]),(1,i6 v.2.2.1),(2,.rs 0)],[.rows Ri v.2.2.2]⟩
abbrev q1kz:Type:=Int×List Di×Int×List Diii
def q1l0 (v:q1kz):St:=⟨[(1,i6 v.1),(2,.rs 0),(3,.ptr 1 0)],[.rows Ri v.2.1,.cells [i6 v.2.2.1,.fz Riii v.2.2.2]]⟩
def q1l1 (C:q1ku) (v:q1kx):Dt q1kz:=(Dt.ret (v.2.2.1,v.2.2.2,v.1,v.2.1))
abbrev q34p {V Y:Type}:=@rg q1ku V Y tysT (fun C=>(orcC (q1kt C.1) (orc (q1kw C)))) 40
theorem q1l2 C v:q34p (regO (qea f78) 0) false [(1,.any),(2,(.own Ri)),(3,(.box [.any,.val Riii]))] q1ky q1l1 q1l0 C v:=rgI (by kernel_rfl)
abbrev q1l3:Type:=Int×Bool×List Di×Int×List Diii
def q1l4 (v:q1l3):St:=⟨[(1,i6 v.1),(2,.rs 0),(3,.ptr 1 0),(16,.bool v.2.1)],[.rows Ri v.2.2.1,.cells [i6 v.2.2.2.1,.fz Riii v.2.2.2.2]]⟩
def q1l5 (C:q1ku) (v:q1kz):Dt q1l3:=(Dt.ite (decide (v.1<(0:Int))) (Dt.ret (v.1,true,v.2.1,v.2.2.1,v.2.2.2)) (Dt.ret (v.1,(decide ((List.length v.2.1:Int) > (List.length v.2.2.2:Int))),v.2.1,v.2.2.1,v.2.2.2)))
theorem q1l6 C v:q34p (regO (qea f78) 1) false [(1,.any),(2,(.own Ri)),(3,(.box [.any,.val Riii])),(16,.any)] q1l0 q1l5 q1l4 C v:=rgI (by kernel_rfl)
abbrev q1l7:Type:=List Di
def q1l8 (v:q1l7):St:=⟨[(6,.rs 0)],[.rows Ri v]⟩
def q1l9 (C:q1ku) (v:q1l3):Dt q1l7:=(Dt.ret v.2.2.1)
theorem q1la C v:q34p (regO (qea f78) 2) false [(6,(.own Ri))] q1l4 q1l9 q1l8 C v:=rgI (by kernel_rfl)
def q1lb (C:q1ku) (v:q1l3):Dt q1kz:=(Dt.ite (inB v.1 (List.length v.2.2.2.2)) (Dt.bnd (C.1 (((v.2.2.2.1,v.2.2.2.2,()),((elt ziii v.2.2.2.2 (v.1).toNat).2.1,()),()),(()),v.2.2.1)) fun r1=>(Dt.ret (v.1,r1,v.2.2.2.1,v.2.2.2.2))) Dt.fail)
theorem q1lc C v:q34p (regO (qea f78) 3) true [(1,.any),(2,(.own Ri)),(3,(.box [.any,.val Riii]))] q1l4 q1lb q1l0 C v:=rgI (by kernel_rfl)
def q1ld (C:q1ku) (v:q1kz):Dt q1kz:=(Dt.ite (apB (List.length v.2.1) (List.length ([(v.1,())]:List Di))) (Dt.ret (v.1,(v.2.1++([(v.1,())]:List Di)),v.2.2.1,v.2.2.2)) Dt.fail)
theorem q1le C v:q34p (regO (qea f78) 4) false [(1,.any),(2,(.own Ri)),(3,(.box [.any,.val Riii]))] q1l0 q1ld q1l0 C v:=rgI (by kernel_rfl)
def q1lf (C:q1ku) (v:q1kz):Dt q1l7:=(Dt.ite (inB v.1 (List.length v.2.2.2)) (Dt.bnd (C.1 (((v.2.2.1,v.2.2.2,()),((elt ziii v.2.2.2 (v.1).toNat).2.2.1,()),()),(()),v.2.1)) fun r1=>(Dt.ret r1)) Dt.fail)
theorem q1lg C v:q34p (regO (qea f78) 5) true [(6,(.own Ri))] q1l0 q1lf q1l8 C v:=rgI (by kernel_rfl)
def q1lh (d:Nat) (me:(q1kr→Option q1ks)) (x:q1kr):Option q1ks :=
 (q1l1 (q1kv d me) (x.1.1.1,x.1.1.2.1,x.1.2.1.1,x.2.2)).eval fun y0 =>
 (q1l5 (q1kv d me) y0).eval fun y1 =>
 bif y1.2.1 then ((q1l9 (q1kv d me) y1).eval fun y2 =>
 some y2) else ((q1lb (q1kv d me) y1).eval fun y3 =>
 (q1ld (q1kv d me) y3).eval fun y4 =>
 (q1lf (q1kv d me) y4).eval fun y5 =>
 some y5)
theorem q1li (d:Nat) (me:(q1kr→Option q1ks)) (hme:COKC prog (q1kt me)):COKC prog (q1kt (q1lh d me)):=by
 have hm:prog.follows .mixedOrders=true:=mixed
 have hT:=tys
 have hC0:OrcOK prog (orc (q1kw (q1kv d me))):=qe4 (by
  intro S hS
  simp only [q1kw,List.mem_cons,List.not_mem_nil,or_false] at hS
  all_goals first | cases hS | exact hS.elim)
 have hC:OrcOK prog (orcC (q1kt (q1kv d me).1) (orc (q1kw (q1kv d me)))):=(q1km hme rfl hC0)
 refine q1ko (c:=qea f78) (fn:=f78) hT (by kernel_rfl) (by kernel_rfl) (by decide) fun x r h w0 φ0 Q hend=>?_
 replace h:q1lh d me x=some r:=h
 unfold q1lh at h
 show Run prog w0 φ0 40 (qea f78) ⟨[(0,.agg [.int .i64 x.1.1.1,.fz Riii x.1.1.2.1]),(1,.int .i64 x.1.2.1.1),(2,.rs 0)],[.rows Ri x.2.2]⟩ Q
 refine q344 hm hT hC (q1l2 (q1kv d me) (x.1.1.1,x.1.1.2.1,x.1.2.1.1,x.2.2)) h fun y0 h=>?_
 refine q9d ?_
 refine q344 hm hT hC (q1l6 (q1kv d me) y0) h fun y1 h=>?_
 refine q9h (v:=y1.2.1) (by kernel_rfl) h ?_ ?_
 ·
  intro h
  refine q344 hm hT hC (q1la (q1kv d me) y1) h fun y2 h=>?_
  refine q9c (q91 ?_)
  cases h
  exact (hend _ (by kernel_rfl)).2
 ·
  intro h
  refine q99 (q8z ?_)
  refine q344 hm hT hC (q1lc (q1kv d me) y1) h fun y3 h=>?_
  refine q344 hm hT hC (q1le (q1kv d me) y3) h fun y4 h=>?_
  refine q344 hm hT hC (q1lg (q1kv d me) y4) h fun y5 h=>?_
  refine q9c ?_
  cases h
  exact (hend _ (by kernel_rfl)).2
def q1lj (d:Nat):Nat→q1kr→Option q1ks
 | 0,_=>none
 | k+1,x=>q1lh d (q1lj d k) x
def q1lk (d:Nat) (x:q1kr):Option q1ks:=q1lj d d x
theorem q1ll (d:Nat):COKC prog (q1kt (q1lk d)):=by
 have key:∀ k,COKC prog (q1kt (q1lj d k)):=fun k=>by
  induction k with
  | zero=>exact ⟨fun x1 x2 xs ys h=>(by cases (show (none:Option q1ks)=some ys from h)),⟨f78,qea f78,by kernel_rfl,by kernel_rfl,by decide⟩⟩
  | succ k ih=>exact q1li d _ ih
 exact key d
abbrev q1lm:List Pk:=[.row qkv true]
abbrev q1ln:Type:=qkw×Unit
abbrev q1lo:Type:=Bool
def q1lp (r:q1lo):LV×List Ob:=(.bool r,[])
def q1lq (F:q1ln→Option q1lo):Go.Tx.Spec:=⟨58,q1lm,q1lo,F,q1lp⟩
abbrev q1lr:Type:=(q1kr→Option q1ks)×Unit
def q1ls (d:Nat):q1lr:=(q1lk d,())
def q1lt (C:q1lr):List Go.Tx.Spec:=[]
abbrev q1lu:Type:=Int×List Diii
def q1lv (v:q1lu):St:=⟨[(0,.agg [i6 v.1,.fz Riii v.2])],[]⟩
abbrev q1lw:Type:=Int×List Diii
def q1lx (v:q1lw):St:=⟨[(1,.ptr 0 0)],[.cells [i6 v.1,.fz Riii v.2]]⟩
def q1ly (C:q1lr) (v:q1lu):Dt q1lw:=(Dt.ret (v.1,v.2))
abbrev q34q {V Y:Type}:=@rg q1lr V Y tysT (fun C=>(orcC (q1kt C.1) (orc (q1lt C)))) 12
theorem q1lz C v:q34q (regO (qea f58) 0) false [(1,(.box [.any,.val Riii]))] q1lv q1ly q1lx C v:=rgI (by kernel_rfl)
abbrev q1m0:Type:=Bool
def q1m1 (v:q1m0):St:=⟨[(2,.bool v)],[]⟩
def q1m2 (C:q1lr) (v:q1lw):Dt q1m0:=(Dt.bnd (C.1 (((v.1,v.2,()),(v.1,()),()),(()),([]:List Di))) fun r1=>(Dt.ret ((List.length r1:Int) == (List.length v.2:Int))))
theorem q1m3 C v:q34q (regO (qea f58) 1) true [(2,.any)] q1lx q1m2 q1m1 C v:=rgI (by kernel_rfl)
def q1m4 (d:Nat) (x:q1ln):Option q1lo :=
 (q1ly (q1ls d) (x.1.1,x.1.2.1)).eval fun y0 =>
 (q1m2 (q1ls d) y0).eval fun y1 =>
 some y1
theorem q1m5 (d:Nat):COK prog (q1lq (q1m4 d)):=by
 have hm:prog.follows .mixedOrders=true:=mixed
 have hT:=tys
 have hC0:OrcOK prog (orc (q1lt (q1ls d))):=qe4 (by
  intro S hS
  simp only [q1lt,List.mem_cons,List.not_mem_nil,or_false] at hS
  all_goals first | cases hS | exact hS.elim)
 have hC:OrcOK prog (orcC (q1kt (q1ls d).1) (orc (q1lt (q1ls d)))):=(q1km (q1ll d) rfl hC0)
 refine q9t (c:=qea f58) (fn:=f58) hT (by kernel_rfl) (by kernel_rfl) (by decide) fun x r h w0 φ0 Q hend=>?_
 replace h:q1m4 d x=some r:=h
 unfold q1m4 at h
 show Run prog w0 φ0 12 (qea f58) ⟨[(0,.agg [.int .i64 x.1.1,.fz Riii x.1.2.1])],[]⟩ Q
 refine q344 hm hT hC (q1lz (q1ls d) (x.1.1,x.1.2.1)) h fun y0 h=>?_
 refine q344 hm hT hC (q1m3 (q1ls d) y0) h fun y1 h=>?_
 refine q9c ?_
 cases h
 exact (hend _ (by kernel_rfl)).2
abbrev q1m6:List Pk:=[.row qkv true]
abbrev q1m7:Type:=qkw×Unit
abbrev q1m8:Type:=List Di
def q1m9 (r:q1m8):LV×List Ob:=(.rs 0,[.rows Ri r])
def q1ma (F:q1m7→Option q1m8):Go.Tx.Spec:=⟨59,q1m6,q1m8,F,q1m9⟩
abbrev q1mb:Type:=(q1kr→Option q1ks)×Unit
def q1mc (d:Nat):q1mb:=(q1lk d,())
def q1md (C:q1mb):List Go.Tx.Spec:=[]
abbrev q1me:Type:=Int×List Diii
def q1mf (v:q1me):St:=⟨[(0,.agg [i6 v.1,.fz Riii v.2])],[]⟩
abbrev q1mg:Type:=Int×List Diii
def q1mh (v:q1mg):St:=⟨[(1,.ptr 0 0)],[.cells [i6 v.1,.fz Riii v.2]]⟩
def q1mi (C:q1mb) (v:q1me):Dt q1mg:=(Dt.ret (v.1,v.2))
abbrev q34r {V Y:Type}:=@rg q1mb V Y tysT (fun C=>(orcC (q1kt C.1) (orc (q1md C)))) 7
theorem q1mj C v:q34r (regO (qea f59) 0) false [(1,(.box [.any,.val Riii]))] q1mf q1mi q1mh C v:=rgI (by kernel_rfl)
abbrev q1mk:Type:=List Di
def q1ml (v:q1mk):St:=⟨[(2,.rs 0)],[.rows Ri v]⟩
def q1mm (C:q1mb) (v:q1mg):Dt q1mk:=(Dt.bnd (C.1 (((v.1,v.2,()),(v.1,()),()),(()),([]:List Di))) fun r1=>(Dt.ret r1))
theorem q1mn C v:q34r (regO (qea f59) 1) false [(2,(.own Ri))] q1mh q1mm q1ml C v:=rgI (by kernel_rfl)
def q1mo (d:Nat) (x:q1m7):Option q1m8 :=
 (q1mi (q1mc d) (x.1.1,x.1.2.1)).eval fun y0 =>
 (q1mm (q1mc d) y0).eval fun y1 =>
 some y1
theorem q1mp (d:Nat):COK prog (q1ma (q1mo d)):=by
 have hm:prog.follows .mixedOrders=true:=mixed
 have hT:=tys
 have hC0:OrcOK prog (orc (q1md (q1mc d))):=qe4 (by
  intro S hS
  simp only [q1md,List.mem_cons,List.not_mem_nil,or_false] at hS
  all_goals first | cases hS | exact hS.elim)
 have hC:OrcOK prog (orcC (q1kt (q1mc d).1) (orc (q1md (q1mc d)))):=(q1km (q1ll d) rfl hC0)
 refine q9t (c:=qea f59) (fn:=f59) hT (by kernel_rfl) (by kernel_rfl) (by decide) fun x r h w0 φ0 Q hend=>?_
 replace h:q1mo d x=some r:=h
 unfold q1mo at h
 show Run prog w0 φ0 7 (qea f59) ⟨[(0,.agg [.int .i64 x.1.1,.fz Riii x.1.2.1])],[]⟩ Q
 refine q344 hm hT hC (q1mj (q1mc d) (x.1.1,x.1.2.1)) h fun y0 h=>?_
 refine q344 hm hT hC (q1mn (q1mc d) y0) h fun y1 h=>?_
 refine q9c ?_
 cases h
 exact (hend _ (by kernel_rfl)).2
abbrev q1mq:List Pk:=[.row qkv true]
abbrev q1mr:Type:=qkw×Unit
abbrev q1ms:Type:=Int
def q1mt (r:q1ms):LV×List Ob:=(.int .i64 r,[])
def q1mu (F:q1mr→Option q1ms):Go.Tx.Spec:=⟨25,q1mq,q1ms,F,q1mt⟩
abbrev q1mv:Type:=(q1d1→Option q1d2)×(q1dl→Option q1dm)×(q1ln→Option q1lo)×(q1m7→Option q1m8)×Unit
def q1mw (d:Nat):q1mv:=(q1di d,q1fk d,q1m4 d,q1mo d,())
def q1mx (C:q1mv):List Go.Tx.Spec:=[q1d4 C.1,q1do C.2.1,q1lq C.2.2.1,q1ma C.2.2.2.1]
abbrev q1my:Type:=Int×List Diii
def q1mz (v:q1my):St:=⟨[(0,.agg [i6 v.1,.fz Riii v.2])],[]⟩
abbrev q1n0:Type:=Int×List Diii
def q1n1 (v:q1n0):St:=⟨[(1,.ptr 0 0)],[.cells [i6 v.1,.fz Riii v.2]]⟩
def q1n2 (C:q1mv) (v:q1my):Dt q1n0:=(Dt.ret (v.1,v.2))
abbrev q34s {V Y:Type}:=@rg q1mv V Y tysT (fun C=>(orc (q1mx C))) 96
theorem q1n3 C v:q34s (regO (qea f25) 0) false [(1,(.box [.any,.val Riii]))] q1mz q1n2 q1n1 C v:=rgI (by kernel_rfl)
abbrev q1n4:Type:=Bool×Int×List Diii
def q1n5 (v:q1n4):St:=⟨[(1,.ptr 0 0),(10,.bool v.1)],[.cells [i6 v.2.1,.fz Riii v.2.2]]⟩
def q1n6 (C:q1mv) (v:q1n0):Dt q1n4:=(Dt.ret ((decide ((List.length v.2:Int) > (64:Int))),v.1,v.2))
theorem q1n7 C v:q34s (regO (qea f25) 1) false [(1,(.box [.any,.val Riii])),(10,.any)] q1n1 q1n6 q1n5 C v:=rgI (by kernel_rfl)
abbrev q1n8:Type:=Int
def q1n9 (v:q1n8):St:=⟨[(2,i6 v)],[]⟩
def q1na (C:q1mv) (v:q1n4):Dt q1n8:=(Dt.ret (4:Int))
theorem q1nb C v:q34s (regO (qea f25) 2) false [(2,.any)] q1n5 q1na q1n9 C v:=rgI (by kernel_rfl)
abbrev q1nc:Type:=Bool×Int×List Diii
def q1nd (v:q1nc):St:=⟨[(1,.ptr 0 0),(25,.bool v.1)],[.cells [i6 v.2.1,.fz Riii v.2.2]]⟩
def q1ne (C:q1mv) (v:q1n4):Dt q1nc:=(Dt.bnd (C.1 ((v.2.1,v.2.2,()),(v.2.1,()),())) fun r1=>(Dt.ite (!r1) (Dt.ret (true,v.2.1,v.2.2)) (Dt.ret ((!((v.2.1 == (-1:Int)) == ((List.length v.2.2:Int) == (0:Int)))),v.2.1,v.2.2))))
theorem q1nf C v:q34s (regO (qea f25) 3) false [(1,(.box [.any,.val Riii])),(25,.any)] q1n5 q1ne q1nd C v:=rgI (by kernel_rfl)
def q1ng (C:q1mv) (v:q1nc):Dt q1n8:=(Dt.ret (8:Int))
theorem q1nh C v:q34s (regO (qea f25) 4) false [(2,.any)] q1nd q1ng q1n9 C v:=rgI (by kernel_rfl)
abbrev q1ni:Type:=Int×Int×List Diii
def q1nj (v:q1ni):St:=⟨[(1,.ptr 0 0),(3,i6 v.1)],[.cells [i6 v.2.1,.fz Riii v.2.2]]⟩
def q1nk (C:q1mv) (v:q1nc):Dt q1ni:=(Dt.ret ((0:Int),v.2.1,v.2.2))
theorem q1nl C v:q34s (regO (qea f25) 5) false [(1,(.box [.any,.val Riii])),(3,.any)] q1nd q1nk q1nj C v:=rgI (by kernel_rfl)
abbrev q1nm:Type:=Int×Bool×Int×List Diii
def q1nn (v:q1nm):St:=⟨[(1,.ptr 0 0),(3,i6 v.1),(30,.bool v.2.1)],[.cells [i6 v.2.2.1,.fz Riii v.2.2.2]]⟩
def q1no (C:q1mv) (v:q1ni):Dt q1nm:=(Dt.ret (v.1,(decide (v.1<(List.length v.2.2:Int))),v.2.1,v.2.2))
theorem q1np C v:q34s (regO (qea f25) 6) false [(1,(.box [.any,.val Riii])),(3,.any),(30,.any)] q1nj q1no q1nn C v:=rgI (by kernel_rfl)
abbrev q1nq:Type:=Int×Int×List Diii×Int×Int×Int
def q1nr (v:q1nq):St:=⟨[(1,.ptr 0 0),(3,i6 v.1),(4,.ptr 1 0)],[.cells [i6 v.2.1,.fz Riii v.2.2.1],.cells [i6 v.2.2.2.1,i6 v.2.2.2.2.1,i6 v.2.2.2.2.2]]⟩
def q1ns (C:q1mv) (v:q1nm):Dt q1nq:=(Dt.ite (inB v.1 (List.length v.2.2.2)) (Dt.ret (v.1,v.2.2.1,v.2.2.2,(elt ziii v.2.2.2 (v.1).toNat).1,(elt ziii v.2.2.2 (v.1).toNat).2.1,(elt ziii v.2.2.2 (v.1).toNat).2.2.1)) Dt.fail)
theorem q1nt C v:q34s (regO (qea f25) 8) false [(1,(.box [.any,.val Riii])),(3,.any),(4,.any)] q1nn q1ns q1nr C v:=rgI (by kernel_rfl)
abbrev q1nu:Type:=Int×Bool×Int×List Diii
def q1nv (v:q1nu):St:=⟨[(1,.ptr 0 0),(3,i6 v.1),(59,.bool v.2.1)],[.cells [i6 v.2.2.1,.fz Riii v.2.2.2]]⟩
def q1nw (C:q1mv) (v:q1nq):Dt q1nu:=(Dt.bnd (C.1 ((v.2.1,v.2.2.1,()),(v.2.2.2.2.1,()),())) fun r1=>(Dt.ite (!r1) (Dt.ret (v.1,true,v.2.1,v.2.2.1)) (Dt.bnd (C.1 ((v.2.1,v.2.2.1,()),(v.2.2.2.2.2,()),())) fun r2=>(Dt.ite (!r2) (Dt.ret (v.1,true,v.2.1,v.2.2.1)) (Dt.ite (decide (v.2.2.2.1<(0:Int))) (Dt.ret (v.1,true,v.2.1,v.2.2.1)) (Dt.ret (v.1,(decide (v.2.2.2.1 > (65535:Int))),v.2.1,v.2.2.1)))))))
theorem q1nx C v:q34s (regO (qea f25) 9) false [(1,(.box [.any,.val Riii])),(3,.any),(59,.any)] q1nr q1nw q1nv C v:=rgI (by kernel_rfl)
def q1ny (C:q1mv) (v:q1nu):Dt q1n8:=(Dt.ret (8:Int))
theorem q1nz C v:q34s (regO (qea f25) 10) false [(2,.any)] q1nv q1ny q1n9 C v:=rgI (by kernel_rfl)
def q1o0 (C:q1mv) (v:q1nu):Dt q1ni:=(Dt.ret ((IntKind.wrap .i64 (v.1+(1:Int))),v.2.2.1,v.2.2.2))
theorem q1o1 C v:q34s (regO (qea f25) 7) false [(1,(.box [.any,.val Riii])),(3,.any)] q1nv q1o0 q1nj C v:=rgI (by kernel_rfl)
abbrev q1o2:Type:=Bool×Int×List Diii
def q1o3 (v:q1o2):St:=⟨[(1,.ptr 0 0),(67,.bool v.1)],[.cells [i6 v.2.1,.fz Riii v.2.2]]⟩
def q1o4 (C:q1mv) (v:q1nm):Dt q1o2:=(Dt.bnd (C.2.1 ((v.2.2.1,v.2.2.2,()),())) fun r1=>(Dt.ite (!r1) (Dt.ret (true,v.2.2.1,v.2.2.2)) (Dt.bnd (C.2.2.1 ((v.2.2.1,v.2.2.2,()),())) fun r2=>(Dt.ret ((!r2),v.2.2.1,v.2.2.2)))))
theorem q1o5 C v:q34s (regO (qea f25) 11) false [(1,(.box [.any,.val Riii])),(67,.any)] q1nn q1o4 q1o3 C v:=rgI (by kernel_rfl)
def q1o6 (C:q1mv) (v:q1o2):Dt q1n8:=(Dt.ret (8:Int))
theorem q1o7 C v:q34s (regO (qea f25) 12) false [(2,.any)] q1o3 q1o6 q1n9 C v:=rgI (by kernel_rfl)
abbrev q1o8:Type:=Int×List Diii×List Di
def q1o9 (v:q1o8):St:=⟨[(1,.ptr 0 0),(5,.rs 1)],[.cells [i6 v.1,.fz Riii v.2.1],.rows Ri v.2.2]⟩
def q1oa (C:q1mv) (v:q1o2):Dt q1o8:=(Dt.bnd (C.2.2.2.1 ((v.2.1,v.2.2,()),())) fun r1=>(Dt.ret (v.2.1,v.2.2,r1)))
theorem q1ob C v:q34s (regO (qea f25) 13) false [(1,(.box [.any,.val Riii])),(5,(.own Ri))] q1o3 q1oa q1o9 C v:=rgI (by kernel_rfl)
abbrev q1oc:Type:=Int×Int×List Diii×List Di
def q1od (v:q1oc):St:=⟨[(1,.ptr 0 0),(5,.rs 1),(6,i6 v.1)],[.cells [i6 v.2.1,.fz Riii v.2.2.1],.rows Ri v.2.2.2]⟩
def q1oe (C:q1mv) (v:q1o8):Dt q1oc:=(Dt.ret ((1:Int),v.1,v.2.1,v.2.2))
theorem q1of C v:q34s (regO (qea f25) 14) false [(1,(.box [.any,.val Riii])),(5,(.own Ri)),(6,.any)] q1o9 q1oe q1od C v:=rgI (by kernel_rfl)
abbrev q1og:Type:=Int×Bool×Int×List Diii×List Di
def q1oh (v:q1og):St:=⟨[(1,.ptr 0 0),(5,.rs 1),(6,i6 v.1),(73,.bool v.2.1)],[.cells [i6 v.2.2.1,.fz Riii v.2.2.2.1],.rows Ri v.2.2.2.2]⟩
def q1oi (C:q1mv) (v:q1oc):Dt q1og:=(Dt.ret (v.1,(decide (v.1<(List.length v.2.2.2:Int))),v.2.1,v.2.2.1,v.2.2.2))
theorem q1oj C v:q34s (regO (qea f25) 15) false [(1,(.box [.any,.val Riii])),(5,(.own Ri)),(6,.any),(73,.any)] q1od q1oi q1oh C v:=rgI (by kernel_rfl)
abbrev q1ok:Type:=Int×Bool×Int×List Diii×List Di
def q1ol (v:q1ok):St:=⟨[(1,.ptr 0 0),(5,.rs 1),(6,i6 v.1),(95,.bool v.2.1)],[.cells [i6 v.2.2.1,.fz Riii v.2.2.2.1],.rows Ri v.2.2.2.2]⟩
def q1om (C:q1mv) (v:q1og):Dt q1ok:=(Dt.ite (inB (IntKind.wrap .i64 (v.1 - (1:Int))) (List.length v.2.2.2.2)) (Dt.ite (inB (elt zi v.2.2.2.2 ((IntKind.wrap .i64 (v.1 - (1:Int)))).toNat).1 (List.length v.2.2.2.1)) (Dt.ite (inB v.1 (List.length v.2.2.2.2)) (Dt.ite (inB (elt zi v.2.2.2.2 (v.1).toNat).1 (List.length v.2.2.2.1)) (Dt.ret (v.1,(decide ((elt ziii v.2.2.2.1 ((elt zi v.2.2.2.2 ((IntKind.wrap .i64 (v.1 - (1:Int)))).toNat).1).toNat).1≥(elt ziii v.2.2.2.1 ((elt zi v.2.2.2.2 (v.1).toNat).1).toNat).1)),v.2.2.1,v.2.2.2.1,v.2.2.2.2)) Dt.fail) Dt.fail) Dt.fail) Dt.fail)
theorem q1on C v:q34s (regO (qea f25) 17) true [(1,(.box [.any,.val Riii])),(5,(.own Ri)),(6,.any),(95,.any)] q1oh q1om q1ol C v:=rgI (by kernel_rfl)
def q1oo (C:q1mv) (v:q1ok):Dt q1n8:=(Dt.ret (8:Int))
theorem q1op C v:q34s (regO (qea f25) 18) false [(2,.any)] q1ol q1oo q1n9 C v:=rgI (by kernel_rfl)
def q1oq (C:q1mv) (v:q1ok):Dt q1oc:=(Dt.ret ((IntKind.wrap .i64 (v.1+(1:Int))),v.2.2.1,v.2.2.2.1,v.2.2.2.2))
theorem q1or C v:q34s (regO (qea f25) 16) false [(1,(.box [.any,.val Riii])),(5,(.own Ri)),(6,.any)] q1ol q1oq q1od C v:=rgI (by kernel_rfl)
def q1os (C:q1mv) (v:q1og):Dt q1n8:=(Dt.ret (0:Int))
theorem q1ot C v:q34s (regO (qea f25) 19) false [(2,.any)] q1oh q1os q1n9 C v:=rgI (by kernel_rfl)
def q1ou (d:Nat) (self2:(Int×Int×List Diii×List Di)→Option q1ms) (x2:Int×Int×List Diii×List Di):Option q1ms :=
 (q1oi (q1mw d) x2).eval fun y15 =>
 bif y15.2.1 then ((q1om (q1mw d) y15).eval fun y17 =>
 bif y17.2.1 then ((q1oo (q1mw d) y17).eval fun y18 =>
 some y18) else ((q1oq (q1mw d) y17).eval fun y16 =>
 self2 y16)) else ((q1os (q1mw d) y15).eval fun y19 =>
 some y19)
def q1ov (d:Nat) (self1:(Int×Int×List Diii)→Option q1ms) (x1:Int×Int×List Diii):Option q1ms :=
 (q1no (q1mw d) x1).eval fun y6 =>
 bif y6.2.1 then ((q1ns (q1mw d) y6).eval fun y8 =>
 (q1nw (q1mw d) y8).eval fun y9 =>
 bif y9.2.1 then ((q1ny (q1mw d) y9).eval fun y10 =>
 some y10) else ((q1o0 (q1mw d) y9).eval fun y7 =>
 self1 y7)) else ((q1o4 (q1mw d) y6).eval fun y11 =>
 bif y11.1 then ((q1o6 (q1mw d) y11).eval fun y12 =>
 some y12) else ((q1oa (q1mw d) y11).eval fun y13 =>
 (q1oe (q1mw d) y13).eval fun y14 =>
 iter (q1ou d ) d y14))
def q1ow (d:Nat) (x:q1mr):Option q1ms :=
 (q1n2 (q1mw d) (x.1.1,x.1.2.1)).eval fun y0 =>
 (q1n6 (q1mw d) y0).eval fun y1 =>
 bif y1.1 then ((q1na (q1mw d) y1).eval fun y2 =>
 some y2) else ((q1ne (q1mw d) y1).eval fun y3 =>
 bif y3.1 then ((q1ng (q1mw d) y3).eval fun y4 =>
 some y4) else ((q1nk (q1mw d) y3).eval fun y5 =>
 iter (q1ov d ) d y5))
theorem q1ox (d:Nat):COK prog (q1mu (q1ow d)):=by
 have hm:prog.follows .mixedOrders=true:=mixed
 have hT:=tys
 have hC0:OrcOK prog (orc (q1mx (q1mw d))):=qe4 (by
  intro S hS
  simp only [q1mx,List.mem_cons,List.not_mem_nil,or_false] at hS
  rcases hS with rfl | rfl | rfl | rfl
  · exact q1dj d
  · exact q1fl d
  · exact q1m5 d
  · exact q1mp d)
 have hC:OrcOK prog (orc (q1mx (q1mw d))):=hC0
 refine q9t (c:=qea f25) (fn:=f25) hT (by kernel_rfl) (by kernel_rfl) (by decide) fun x r h w0 φ0 Q hend=>?_
 replace h:q1ow d x=some r:=h
 unfold q1ow at h
 show Run prog w0 φ0 96 (qea f25) ⟨[(0,.agg [.int .i64 x.1.1,.fz Riii x.1.2.1])],[]⟩ Q
 refine q344 hm hT hC (q1n3 (q1mw d) (x.1.1,x.1.2.1)) h fun y0 h=>?_
 refine q9d ?_
 refine q344 hm hT hC (q1n7 (q1mw d) y0) h fun y1 h=>?_
 refine q9h (v:=y1.1) (by kernel_rfl) h ?_ ?_
 ·
  intro h
  refine q344 hm hT hC (q1nb (q1mw d) y1) h fun y2 h=>?_
  refine q9c (q91 ?_)
  cases h
  exact (hend _ (by kernel_rfl)).2
 ·
  intro h
  refine q99 (q8z (q9d ?_))
  refine q344 hm hT hC (q1nf (q1mw d) y1) h fun y3 h=>?_
  refine q9h (v:=y3.1) (by kernel_rfl) h ?_ ?_
  ·
   intro h
   refine q344 hm hT hC (q1nh (q1mw d) y3) h fun y4 h=>?_
   refine q9c (q91 ?_)
   cases h
   exact (hend _ (by kernel_rfl)).2
  ·
   intro h
   refine q99 (q8z (q9d ?_))
   refine q344 hm hT hC (q1nl (q1mw d) y3) h fun y5 h=>?_
   refine q9e ?_
   refine q9j (G:=iter (q1ov d )) (S:=(fun x1=>⟨[(1,.ptr 0 0),(3,i6 x1.1)],[.cells [i6 x1.2.1,.fz Riii x1.2.2]]⟩:Int×Int×List Diii→St)) (fun _=>rfl) ?_ d _ h
   intro n1 x1 h K1 hn1
   replace h:q1ov d  (iter (q1ov d ) n1) x1=some r:=h
   generalize iter (q1ov d ) n1=self1 at h hn1
   unfold q1ov at h
   refine q9d ?_
   refine q344 hm hT hC (q1np (q1mw d) x1) h fun y6 h=>?_
   refine q9h (v:=y6.2.1) (by kernel_rfl) h ?_ ?_
   ·
    intro h
    refine q99 (q8z (q9d (q9e ?_)))
    refine q344 hm hT hC (q1nt (q1mw d) y6) h fun y8 h=>?_
    refine q344 hm hT hC (q1nx (q1mw d) y8) h fun y9 h=>?_
    refine q9h (v:=y9.2.1) (by kernel_rfl) h ?_ ?_
    ·
     intro h
     refine q344 hm hT hC (q1nz (q1mw d) y9) h fun y10 h=>?_
     refine q9c (q93 (q91 (q91 (q93 (q91 ?_)))))
     cases h
     exact (hend _ (by kernel_rfl)).2
    ·
     intro h
     refine q99 (q92 (q8z ?_))
     refine q9i hm hT hC (q1o1 (q1mw d) y9) h ?_
     intro y7 h
     exact hn1 _ h
   ·
    intro h
    refine q9b (q90 (q90 (q94 (q8z (q9d ?_)))))
    refine q344 hm hT hC (q1o5 (q1mw d) y6) h fun y11 h=>?_
    refine q9h (v:=y11.1) (by kernel_rfl) h ?_ ?_
    ·
     intro h
     refine q344 hm hT hC (q1o7 (q1mw d) y11) h fun y12 h=>?_
     refine q9c (q91 ?_)
     cases h
     exact (hend _ (by kernel_rfl)).2
    ·
     intro h
     refine q99 (q8z ?_)
     refine q344 hm hT hC (q1ob (q1mw d) y11) h fun y13 h=>?_
     refine q9d ?_
     refine q344 hm hT hC (q1of (q1mw d) y13) h fun y14 h=>?_
     refine q9e ?_
     refine q9j (G:=iter (q1ou d )) (S:=(fun x2=>⟨[(1,.ptr 0 0),(5,.rs 1),(6,i6 x2.1)],[.cells [i6 x2.2.1,.fz Riii x2.2.2.1],.rows Ri x2.2.2.2]⟩:Int×Int×List Diii×List Di→St)) (fun _=>rfl) ?_ d _ h
     intro n2 x2 h K2 hn2
     replace h:q1ou d  (iter (q1ou d ) n2) x2=some r:=h
     generalize iter (q1ou d ) n2=self2 at h hn2
     unfold q1ou at h
     refine q9d ?_
     refine q344 hm hT hC (q1oj (q1mw d) x2) h fun y15 h=>?_
     refine q9h (v:=y15.2.1) (by kernel_rfl) h ?_ ?_
     ·
      intro h
      refine q99 (q8z (q9d (q9e ?_)))
      refine q344 hm hT hC (q1on (q1mw d) y15) h fun y17 h=>?_
      refine q9h (v:=y17.2.1) (by kernel_rfl) h ?_ ?_
      ·
       intro h
       refine q344 hm hT hC (q1op (q1mw d) y17) h fun y18 h=>?_
       refine q9c (q93 (q91 (q91 (q93 (q91 ?_)))))
       cases h
       exact (hend _ (by kernel_rfl)).2
      ·
       intro h
       refine q99 (q92 (q8z ?_))
       refine q9i hm hT hC (q1or (q1mw d) y17) h ?_
       intro y16 h
       exact hn2 _ h
     ·
      intro h
      refine q9b (q90 (q90 (q94 (q8z ?_))))
      refine q344 hm hT hC (q1ot (q1mw d) y15) h fun y19 h=>?_
      refine q9c ?_
      cases h
      exact (hend _ (by kernel_rfl)).2
end Go.Proofs.Ytoakhncbmpdacaa

namespace Go.Tx
open Go
def KT (V:Nat→Value→Prop) (a:Act):Prop:=∀ n v,V n v→a.tmps[n]?=some v
theorem q1t1 {V:Nat→Value→Prop} {a:Act} {dst:Option Tmp} (hd:∀ n v,V n v→dst≠some n) (h:KT V a) (v:Value):KT V (a.put dst v):=fun n u hu=>by
  cases dst with
  | none=>exact h n u hu
  | some d =>
    have hne:d≠n:=fun he=>hd n u hu (by rw [he])
    show (a.tmps.setIfInBounds d v)[n]?=some u
    rw [Array.getElem?_setIfInBounds_ne hne];exact h n u hu
def QK (V:Nat→Value→Prop) (Q:Exit→Act→World→Prop) (e:Exit) (a:Act) (w:World):Prop:=Q e a w∧(e=.normal→KT V a)
section
variable {P:Program} {V:Nat→Value→Prop} {Q:Exit→Act→World→Prop} {ops:Array Oper}
theorem q1t2 {o:Oper} {a:Act} {w:World} {K:Act→World→Prop} (hd:∀ n v,V n v→o.dst≠some n) (ht:KT V a) (h:o.wp P a w K Q):o.wp P a w (fun a w=>K a w∧KT V a) (QK V Q):=by
  unfold Oper.wp at *
  generalize (execOp a.eval o).run P w=r at *
  cases r with
  | ok n w' =>
    cases n<;>simp only [Oper.upon] at h ⊢
    case value v=>exact ⟨h,q1t1 hd ht v⟩
    case skip=>exact ⟨h,q1t1 hd ht _⟩
    case defer d=>exact ⟨h,q1t1 (a:={ a with defers:=d :: a.defers }) hd ht _⟩
    case enter f args =>
      refine Calls.mono h fun e w'' he=>?_
      cases e with
      | returned v=>exact ⟨he,q1t1 hd ht v⟩
      | panicked c=>exact ⟨he,fun h=>by cases h⟩
      | outgrown=>obtain ⟨a2,w2,h2⟩:=he;exact ⟨a2,w2,h2,fun h=>by cases h⟩
    case row row args=>exact Rows.mono h fun v w'' he=>⟨he,q1t1 hd ht v⟩
  | halt x w' =>
    cases x<;>simp only [Oper.upon] at h ⊢
    exact ⟨h,fun h=>by cases h⟩
theorem q1t3:∀ (l:List Oper),(∀ o∈l,∀ n v,V n v→o.dst≠some n)→∀ (a:Act) (w:World),KT V a→wpList P ops Q l a w→wpList P ops (QK V Q) l a w
  | [],_,a,w,ht,h=>⟨h,fun _=>ht⟩
  | o :: l, hd, a, w, ht, h => by
    have ih:=q1t3 l fun o ho=>hd o (List.mem_cons_of_mem _ ho)
    have h0:=hd o (List.mem_cons_self ..)
    change (if Region.wanted o (yielded ops a.tmps) then _ else _)
    change (if Region.wanted o (yielded ops a.tmps) then _ else _) at h
    split
    · rename_i hw
      rw [if_pos hw] at h
      rcases h with h | h
      · exact .inl (Oper.wp_mono (fun a w hk=>ih a w hk.2 hk.1) (q1t2 h0 ht h))
      · obtain ⟨a2, w2, h3⟩ := h.2
        exact .inr ⟨h.1,a2,w2,h3,fun h=>by cases h⟩
    · rename_i hw
      rw [if_neg hw] at h
      exact ih _ _ (q1t1 h0 ht _) h
theorem q1t4 {md:Region.Mode} (hd:∀ (i:Nat) (o:Oper),ops[i]?=some o→∀ n v,V n v→o.dst≠some n):∀ (f:Nat) (li:Array Bool) (a:Act) (w:World),KT V a→wpAny P md ops Q f li a w→wpAny P md ops (QK V Q) f li a w:=by
  intro f
  induction f with
  | zero=>intro li a w ht h;exact ⟨h.1,h.2,fun _=>ht⟩
  | succ f ih =>
    intro li a w ht h
    refine ⟨fun hr=>⟨h.1 hr,fun _=>ht⟩,fun i hi=>?_⟩
    have h2:=h.2 i hi
    unfold wpOp at h2 ⊢
    cases ho:ops[i]? with
    | none=>rw [ho] at h2;exact ih _ _ _ ht h2
    | some o =>
      rw [ho] at h2
      simp only at h2 ⊢
      split
      · rename_i hw
        rw [if_pos hw] at h2
        rcases h2 with h2 | h2
        · exact .inl (Oper.wp_mono (fun a w hk=>ih _ a w hk.2 hk.1) (q1t2 (hd i o ho) ht h2))
        · obtain ⟨a2, w2, h3⟩ := h2.2
          exact .inr ⟨h2.1,a2,w2,h3,fun h=>by cases h⟩
      · rename_i hw
        rw [if_neg hw] at h2
        exact ih _ _ _ (q1t1 (hd i o ho) ht _) h2
def dstB (ns:List Nat) (ops:Array Oper):Bool:=ops.toList.all fun o=>match o.dst with | some d=>!memB ns d | none=>true
theorem q1t5 {ns:List Nat} (h:dstB ns ops=true) (hV:∀ n v,V n v→n∈ns) {o:Oper} (ho:o∈ops.toList):∀ n v,V n v→o.dst≠some n:=fun n v hn he=>by
  unfold dstB at h
  have h1:=List.all_eq_true.1 h o ho
  rw [he] at h1
  simp only at h1
  rw [q6f.2 (hV n v hn)] at h1
  cases h1
theorem q1t6 {draw:Bool} {a:Act} {w:World} {ns:List Nat} (hV:∀ n v,V n v→n∈ns) (hd:dstB ns ops=true) (ht:KT V a) (h:RW P ops draw Q a w):RW P ops draw (QK V Q) a w:=by
  cases draw with
  | true=>exact q1t4 (fun i o ho=>q1t5 hd hV (List.mem_of_getElem? (i:=i) (by rw [Array.getElem?_toList];exact ho))) _ _ _ _ ht h
  | false=>exact q1t3 _ (fun o ho=>q1t5 hd hV ho) _ _ ht h
end
section
variable {P:Program} {T:Tys} {C:Orc} {N:Nat} {V:Nat→Value→Prop} {w0:World} {φ0:Fz0} {Q:Exit→Act→World→Prop}
def RunK (P:Program) (V:Nat→Value→Prop) (w0:World) (φ0:Fz0) (N:Nat) (c:Code) (s:St) (Q:Exit→Act→World→Prop):Prop:=∀ a w,SS w0 φ0 N s a w→KT V a→c.wp P Q a w
def CnK (V:Nat→Value→Prop) (w0:World) (φ0:Fz0) (N:Nat) (s:St) (Q:Exit→Act→World→Prop) (e:Exit):Prop:=∀ a w,SS w0 φ0 N s a w→KT V a→Q e a w
theorem q1t7 {c:Code} {s:St} (h:RunK P V w0 φ0 N c s Q):CnK V w0 φ0 N s (Exit.then (c.wp P Q) Q) .normal:=h
theorem q1t9 {s:St} {K:Act→World→Prop} (h:CnK V w0 φ0 N s Q .ret):CnK V w0 φ0 N s (Exit.then K Q) .ret:=h
theorem q1th {s:St} (h:CnK V w0 φ0 N s Q .normal):RunK P V w0 φ0 N .skip s Q:=fun a w hs hv=>wp_skip (h a w hs hv)
theorem q1tk {s:St} (h:CnK V w0 φ0 N s Q .ret):RunK P V w0 φ0 N .ret s Q:=fun a w hs hv=>wp_ret (h a w hs hv)
theorem q1tl {x y:Code} {s:St} (h:RunK P V w0 φ0 N x s (Exit.then (y.wp P Q) Q)):RunK P V w0 φ0 N (.seq x y) s Q:=fun a w hs hv=>wp_seq (wp_mono (h a w hs hv) fun _ _ _ h=>h)
theorem q1tp {R:Type} {r:R} {v:Bool} {A B:Option R} {c:Operand} {x y:Code} {s:St} (hc:stev s c=.bool v) (h:(bif v then A else B)=some r) (ht:A=some r→RunK P V w0 φ0 N x s Q) (hf:B=some r→RunK P V w0 φ0 N y s Q):RunK P V w0 φ0 N (.cond c x y) s Q:=fun a w hs hv=>by
  obtain ⟨η,h1,_⟩:=hs.sr
  have hx:=q5u (h1 0).tr c
  rw [show xev (q80 s.tm .lf) c=.bool v from hc] at hx
  have hcv:a.eval c=.bool v:=by
    generalize a.eval c=u at hx
    cases hx;rfl
  refine wp_cond hcv ?_
  cases v with
  | true=>exact ht h a w hs hv
  | false=>exact hf h a w hs hv
theorem q1tq (hm:P.follows .mixedOrders=true) (hT:TysOK P T) (hC:OrcOK P C) {ns:List Nat} (hV:∀ n v,V n v→n∈ns) {R Y:Type} {r:R} {rid:Nat} {ops:Array Oper} {draw:Bool} {keep:List (Nat×Kd)} {s:St} {t:Dt Y} {S:Y→St} {K:Y→Option R}
    (hd:dstB ns ops=true) (hreg:treg T C N ops draw keep s some=t.eval fun y=>some (S y)) (h:t.eval K=some r) (hk:∀ y,K y=some r→CnK V w0 φ0 N (S y) Q .normal):RunK P V w0 φ0 N (.region rid ops draw) s Q:=by
  obtain ⟨y,h1,h2⟩:=t.one h
  rw [h2] at hreg
  obtain ⟨s',h3,h4⟩:=q8x (D:=φ0.D) hm hT hC hreg
  injection h3 with h3;subst h3
  intro a w hs hv
  have h5:=q1t6 hV hd hv (h4 w0 φ0 a w (fun e a w=>e=.normal∧SS w0 φ0 N (S y) a w) rfl hs fun a' w' h=>⟨rfl,h⟩)
  have h6:(Code.region rid ops draw).wp P (QK V fun e a w=>e=.normal∧SS w0 φ0 N (S y) a w) a w:=by
    cases draw with
    | true=>exact wp_region_any hm h5
    | false=>exact wp_region_list h5
  refine wp_mono h6 fun e a' w' ⟨⟨he,h7⟩,h8⟩=>?_
  subst he
  exact hk y h1 a' w' h7 (h8 rfl)
end
structure MSpec where
  g:FuncId
  τ1:List Pk
  ρ:Row
  τ2:List Pk
  σ:Row
  k:IntKind
  F:dens τ1→den ρ→dens τ2→List (den σ)→Option (Int×List (den σ))
structure COKM (P:Program) (S:MSpec):Prop where
  ok:∀ x1 a x2 xs r,S.F x1 a x2 xs=some r→∀ (w:World) (η:Emb) (vs:List Value),(∀ M,HR M η (cmem xs) w)→VRs η (q9o S.τ1 x1 ++ .agg (split S.ρ a ++ [.rs 0]) :: q9o S.τ2 x2) vs →
    Calls P S.g vs.toArray w fun e w'=>e=.returned (.int S.k r.1)∧(∀ M,HR M η (cmem r.2) w')∧Fr w (cFz xs η) (cmem r.2) η w'
  body:q5q P S.g
section
variable {P:Program} {M:Nat} {H:LH} {η:Emb} {w:World}
theorem q1ts {n x:Nat} {o ob:Ob} (hx:(H.put n (some o)).get x=some ob):(x=n∧ob=o)∨(x≠n∧H.get x=some ob):=by
  rw [LH.get_put] at hx
  split at hx
  · rename_i he;injection hx with hx;exact .inl ⟨he,hx.symm⟩
  · rename_i he;exact .inr ⟨he,hx⟩
theorem VRs.snoc {cs:List LV} {l:LV} {vs:List Value} (h:VRs η (cs ++ [l]) vs):∃ us u,vs=us ++ [u]∧VRs η cs us∧VR η l u:=by
  have t1:=h.take cs.length
  have t2:=h.drop cs.length
  rw [List.take_left] at t1
  rw [List.drop_left] at t2
  obtain ⟨u,us2,e,g1,g2⟩:=t2.uncons
  have e2:us2=[]:=by have:=g2.1;simpa using this.symm
  subst e2
  exact ⟨vs.take cs.length,u,by rw [← e,List.take_append_drop],t1,g1⟩
theorem q1tt {η0:Emb} {m n:Nat} {σ:Row} {ys:List (den σ)} (h:Lv η0 w m (.rows σ ys)) (hp:qda σ=true) (l0:η0.loc m=η.loc n) (d0:η0.hdr m=η.hdr n):Lv η w n (.rows σ ys):=by
  cases h with
  | rows k1 k2 k3 k4 k5=>exact .rows (by rw [← l0];exact k1) (qe1 hp k2) (by rw [← d0];exact k3) k4 k5
  | none k1 k2=>exact .none (by rw [← l0];exact k1) (by rw [← d0];exact k2)
theorem q1tu {S:MSpec} (hS:COKM P S) (hp:qda S.σ=true) {a1 a2 cs:List LV} {n:Nat} {xs:List (den S.σ)} {r:Int×List (den S.σ)} {x1:dens S.τ1} {a:den S.ρ} {x2:dens S.τ2} (h1:decs H S.τ1 a1=some x1) (h2:decs H S.τ2 a2=some x2) (hj:join S.ρ cs=some a)
    (hn:H.get n=some (.rows S.σ xs)) (hA:n ∉ deep H ((a1++a2).flatMap q6l)) (hF:S.F x1 a x2 xs=some r) :
    q5p P S.g (a1 ++ .agg (cs ++ [.rs n]) :: a2) H (.int S.k r.1,H.put n (some (.rows S.σ r.2))):=by
  generalize hAe:deep H ((a1++a2).flatMap q6l)=A at hA
  have hAm:∀ l∈a1++a2,∀ k∈deep H (q6l l),k∈A:=fun l hl k hk=>by rw [← hAe];exact qdv (fun m hm=>List.mem_flatMap.2 ⟨l,hl,hm⟩) hk
  refine ⟨Logged.put H hn _,fun M η w vs h hM hv=>?_⟩
  obtain ⟨φ,hph⟩:=qdp H η w A
  have hphi:∀ k ob,φ k=some ob→w.heap[k]?=some ob:=fun k ob hk=>by
    rcases hph.cases k ob hk with h1 | ⟨_,_,h1⟩
    · exact h.fz k ob h1
    · exact h1
  have hnd:q8s [n]=true:=rfl
  have hsub:=q8u hnd (q1ki hn) h
  let η0:Emb:=⟨(η.sub [n]).loc,(η.sub [n]).hdr,φ⟩
  have l0:η0.loc 0=η.loc n:=rfl
  have d0:η0.hdr 0=η.hdr n:=rfl
  have lx:∀ k,1≤k→η0.loc k=none:=fun k hk=>by
    show ([n][k]?).bind η.loc=none
    rw [List.getElem?_eq_none (by simpa using hk)];rfl
  have hle0:(η.sub [n]).le η0:=⟨fun _ _ h=>h,fun _ _ h=>h,fun k ob hk=>hph.fz k ob hk⟩
  have hlb0:∀ k,LB (cmem xs) η0 k→∃ L',η.loc n=some L'∧L'.block=k:=fun k ⟨j,ob,L',hj,hL',hk⟩=>by
    match j with
    | 0=>exact ⟨L',hL',hk⟩
    | j+1=>rw [lx _ (by omega)] at hL';cases hL'
  have hlbH:∀ k,LB (cmem xs) η0 k→LB H η k:=fun k hk=>let ⟨L',g2,g3⟩:=hlb0 k hk;⟨n,_,L',hn,g2,g3⟩
  have hsep0:∀ k,LB (cmem xs) η0 k→φ k=none:=fun k hk=>by
    cases hf:φ k with
    | none=>rfl
    | some o =>
      exfalso
      obtain ⟨L',g2,g3⟩:=hlb0 k hk
      rcases hph.cases k o hf with h3 | ⟨_,⟨m,hm,ob',L2,m1,m2,m3⟩,_⟩
      · rw [h.sep k (hlbH k hk)] at h3;cases h3
      · have := h.inj n m _ _ _ _ hn m1 g2 m2 (by rw [g3, m3])
        subst this
        exact hA hm
  have hr0:∀ M,HR M η0 (cmem xs) w:=fun M=>⟨(hsub M).dom,(hsub M).lt,fun j ob hj=>((hsub M).live j ob hj).move hle0 rfl (Nat.le_refl _) fun _ _=>rfl,(hsub M).inj,hphi,hsep0,(hsub M).ok⟩
  have hfro:(Emb.fro φ).le η0:=⟨fun _ _ h=>(by cases h),fun _ _ h=>(by cases h),fun _ _ h=>h⟩
  obtain ⟨us,v0,us2,rfl,q1,q0,q2⟩:∃ us v0 us2,vs=us++v0 :: us2∧VRs η a1 us∧VR η (.agg (cs ++ [.rs n])) v0∧VRs η a2 us2:=by
    have t1:=hv.take a1.length
    have t2:=hv.drop a1.length
    rw [List.take_left] at t1
    rw [List.drop_left] at t2
    obtain ⟨v0,us2,e,g1,g2⟩:=t2.uncons
    exact ⟨vs.take a1.length,v0,us2,by rw [← e,List.take_append_drop],t1,g1,g2⟩
  have r1:=(qdy h hph h1 (fun l hl=>hAm l (List.mem_append_left _ hl)) q1).mono hfro
  have r2:=(qdy h hph h2 (fun l hl=>hAm l (List.mem_append_right _ hl)) q2).mono hfro
  have r0:VR η0 (.agg (split S.ρ a ++ [.rs 0])) v0:=by
    cases q0 with
    | agg hl hh =>
      obtain ⟨ws,u,rfl,k1,k2⟩:=VRs.snoc (η:=η) ⟨hl,hh⟩
      have k3:=q2e S.ρ hj k1
      have k4:VRs η0 (split S.ρ a) ws:=⟨k3.1,fun i c v hc hv=>q8h (fun k ob hk=>hph.fz k ob hk) S.ρ a (List.mem_of_getElem? hc) (k3.2 i c v hc hv)⟩
      have k5:VR η0 (.rs 0) u:=by
        cases k2 with
        | rs hq=>exact .rs (by rw [d0];exact hq)
      have k6:=k4.append (VRs.cons k5 VRs.nil)
      exact .agg k6.1 k6.2
  refine Calls.mono (hS.ok x1 a x2 xs r hF w η0 _ hr0 (r1.append (VRs.cons r0 r2))) fun e w' ⟨e1,e3,e4⟩=>⟨_,η,e1,.int _ _,?_⟩
  have gm:(cmem r.2).get 0=some (.rows S.σ r.2):=by unfold cmem;rw [q85];rfl
  have hL0:∀ j ob L',H.get j=some ob→η.loc j=some L'→L'.block<w.heap.size:=fun j ob L' g1 g2=>(h.live j ob g1).lt g2
  have hkeep:∀ j ob,H.get j=some ob→j≠n→∀ L',η.loc j=some L'→¬ LB (cmem xs) η0 L'.block:=fun j ob g1 n2 L' g2 hl=>by
    obtain ⟨L2,k2,k3⟩:=hlb0 _ hl
    exact n2 (h.inj n j _ _ _ _ hn g1 k2 g2 k3).symm
  have hold:∀ j ob,(H.put n (some (.rows S.σ r.2))).get j=some ob→∃ ob0,H.get j=some ob0:=fun j ob hj=>by
    rcases q1ts hj with ⟨rfl,_⟩ | ⟨_,hg⟩
    · exact ⟨_,hn⟩
    · exact ⟨_,hg⟩
  have hlb2:∀ k,LB (H.put n (some (.rows S.σ r.2))) η k→LB H η k:=fun k ⟨j,ob,L',hj,hL',hk⟩=>let ⟨ob0,hg⟩:=hold j ob hj;⟨j,ob0,L',hg,hL',hk⟩
  refine ⟨Emb.le_refl _,fun _ _=>⟨rfl,rfl⟩,Nat.le_refl _,⟨h.dom,fun j ob hj=>let ⟨ob0,hg⟩:=hold j ob hj;h.lt j ob0 hg,fun j ob hj=>?_,fun j1 j2 o1 o2 L1 L2 k1 k2 t1 t2 he=>?_,fun k ob hk=>(e3 0).fz k ob (hph.fz k ob hk),fun k hk=>h.sep k (hlb2 k hk),h.ok⟩,e4.size,fun k hk hl=>e4.same k hk fun hl0=>hl (hlbH k hl0),fun k hk=>.inl (hlb2 k hk),fun k ob hk=>.inl hk,e4.os,e4.tape,e4.output,e4.drawn⟩
  · rcases q1ts hj with ⟨rfl, rfl⟩ | ⟨hne, hg⟩
    · exact q1tt ((e3 0).live 0 _ gm) hp l0 d0
    · exact (h.live j ob hg).move (Emb.le_refl _) rfl e4.size fun L' hL'=>e4.same _ (hL0 _ _ _ hg hL') (hkeep _ _ hg hne L' hL')
  · obtain ⟨c1, g1⟩ := hold _ _ k1
    obtain ⟨c2,g2⟩:=hold _ _ k2
    exact h.inj _ _ _ _ _ _ g1 g2 t1 t2 he
def orcM (S:MSpec) (C:Orc):Orc:=fun h args H =>
  bif Nat.beq h S.g then (match args.drop S.τ1.length with
    | .agg cs :: a2 => (match cs.drop S.ρ.size with
      | [.rs n] => (match H.get n with
        | some (.rows σ xs) => if e : σ = S.σ then (match decs H S.τ1 (args.take S.τ1.length), join S.ρ (cs.take S.ρ.size), decs H S.τ2 a2 with
          | some x1, some a, some x2 => bif memB (deep H ((args.take S.τ1.length ++ a2).flatMap q6l)) n then none else
            some ⟨Int×List (den S.σ),S.F x1 a x2 (e ▸ xs),fun r=>(.int S.k r.1,H.put n (some (.rows S.σ r.2)))⟩
          | _,_,_=>none) else none
        | _=>none)
      | _=>none)
    | _=>none) else C h args H
theorem q1tv {S:MSpec} (hS:COKM P S) (hp:qda S.σ=true) {C:Orc} (hC:OrcOK P C):OrcOK P (orcM S C):=by
  refine ⟨fun h args H p x hp' hx=>?_⟩
  unfold orcM at hp'
  rw [Bool.cond_eq_ite] at hp'
  split at hp'
  · rename_i he
    have he:=Nat.eq_of_beq_eq_true he
    subst he
    split at hp'
    · rename_i cs a2 hdr
      split at hp'
      · rename_i n hcs
        split at hp'
        · rename_i σ xs hn
          split at hp'
          · rename_i e
            subst e
            split at hp'
            · rename_i x1 a x2 d1 dj d2
              rw [Bool.cond_eq_ite] at hp'
              split at hp'
              · cases hp'
              · rename_i hc
                injection hp' with hp'
                subst hp'
                have hargs:args=args.take S.τ1.length ++ .agg (cs.take S.ρ.size ++ [.rs n]) :: a2:=by rw [← hcs,List.take_append_drop,← hdr,List.take_append_drop]
                refine .inl ⟨?_,hS.body⟩
                have:=q1tu hS hp d1 d2 dj hn (fun hm=>hc (q6f.2 hm)) hx
                rw [← hargs] at this
                exact this
            · cases hp'
          · cases hp'
        · cases hp'
      · cases hp'
    · cases hp'
  · exact hC.call h args H p x hp' hx
def EndK (V:Nat→Value→Prop) (w0:World) (φ0:Fz0) (N d p:Nat) (k:IntKind) (ρ σ:Row) (r:Int×List (den σ)) (Q:Exit→Act→World→Prop):Prop :=
  ∀ (s:St) (n:Nat) (a:den ρ),stev s (.tmp d)=.int k r.1→stev s (.tmp p)=.agg (split ρ a ++ [.rs n])→(q82 s.ob).get n=some (.rows σ r.2)→CnK V w0 φ0 N s Q .normal∧CnK V w0 φ0 N s Q .ret
theorem q1tw {η η1:Emb} {w w':World} {n:Nat} {σ:Row} {xs ys:List (den σ)} (h:Lv η w 0 (.rows σ xs)) (k:Lv η1 w' n (.rows σ ys)) (hp:qda σ=true) {v:Value} (hv:η.hdr 0=some v) (kv:η1.hdr n=some v) (hs:w.heap.size≤w'.heap.size):Lv η w' 0 (.rows σ ys):=by
  cases h with
  | none hL hh =>
    rename_i A
    rw [hv] at hh;injection hh with hh;subst hh
    cases k with
    | none kL kh=>exact .none hL hv
    | rows kL ka kh kc kr =>
      rw [kv] at kh;injection kh with kh;injection kh with e1 e2 e3
      have:ys=[]:=List.eq_nil_of_length_eq_zero e2.symm
      subst this
      exact .none hL hv
  | rows hL ha hh hc hr =>
    rename_i L c
    rw [hv] at hh;injection hh with hh;subst hh
    cases k with
    | none kL kh =>
      rw [kv] at kh;injection kh with kh;injection kh with e1 e2 e3
      subst e3
      have hx0:xs.length=0:=e2
      refine .rows hL ⟨Nat.lt_of_lt_of_le ha.lt hs,by rw [qc];simp only [List.length_nil,Nat.zero_mul] at hr ⊢;omega,fun j h1 h2=>?_,fun j cc hcc=>by simp [flat] at hcc⟩ (by rw [hv,hx0];rfl) (Nat.le_refl _) hr
      rw [Nat.zero_mul] at hr;omega
    | rows kL ka kh kc kr =>
      rename_i L' c'
      rw [kv] at kh;injection kh with kh;injection kh with e1 e2 e3
      injection e1 with e1;injection e1 with e4 e5 _
      obtain ⟨b1,b2,b3⟩:=L
      obtain ⟨b1',b2',b3'⟩:=L'
      simp only at e4 e5 hr kr
      subst e4 e5 e3
      have:b3'=b3:=by omega
      subst this
      exact .rows hL (qe1 hp ka) (by rw [hv,e2]) kc kr
theorem q1tx {T : Tys} (hT : TysOK P T) {S : MSpec} (hp : qda S.σ = true) {fn : Func} {c : Code} {d : Nat} (hfn : P.funcs[S.g]? = some fn) (hc : fn.body = some c) (hname : ¬ fn.name = "runtime.NumGoroutine") (hres : fn.results = #[.tmp d])
    (h:∀ (x:dens S.τ1×den S.ρ×dens S.τ2×List (den S.σ)) (r:Int×List (den S.σ)),S.F x.1 x.2.1 x.2.2.1 x.2.2.2=some r→∀ V w0 φ0 Q,(∀ n v,V n v→n ∈ [S.τ1.length])→EndK V w0 φ0 fn.ntmps d S.τ1.length S.k S.ρ S.σ r Q →
      RunK P V w0 φ0 fn.ntmps c ⟨nums 0 (q9o S.τ1 x.1 ++ .agg (split S.ρ x.2.1 ++ [.rs 0]) :: q9o S.τ2 x.2.2.1),[.rows S.σ x.2.2.2]⟩ Q):COKM P S:=by
  refine ⟨fun x1 a x2 xs r hx w η vs hr hv=>?_,fn,c,hfn,hc,hname⟩
  have hlenA:∀ (τs:List Pk) (x:dens τs),(q9o τs x).length=τs.length:=fun τs=>by
    induction τs with
    | nil=>exact fun _=>rfl
    | cons p τs ih=>exact fun x=>by rw [q9o,List.length_cons,ih x.2,List.length_cons]
  obtain ⟨v0,hv0,hvr⟩:∃ v0,vs[S.τ1.length]?=some v0∧VR η (.agg (split S.ρ a ++ [.rs 0])) v0:=hv.get (by rw [List.getElem?_append_right (by rw [hlenA];exact Nat.le_refl _),hlenA,Nat.sub_self];rfl)
  obtain ⟨hd0,us0,hq0,rfl⟩:∃ hd0 us0,η.hdr 0=some hd0∧v0=.agg (us0 ++ [hd0]).toArray:=by
    cases hvr with
    | agg hl hh =>
      obtain ⟨ws,u,rfl,k1,k2⟩:=VRs.snoc (η:=η) ⟨hl,hh⟩
      cases k2 with
      | rs hq=>exact ⟨u,ws,hq,rfl⟩
  have htm:∀ (n:Nat) v,vs[n]?=some v→(vs.toArray++Array.replicate (fn.ntmps - vs.toArray.size) undef)[n]?=some v:=fun n v e1=>by
    have hlt:=(List.getElem?_eq_some_iff.1 e1).1
    rw [Array.getElem?_append_left (by simpa using hlt)]
    simpa using e1
  refine calls_of_wp hfn hc ?_
  refine h (x1,a,x2,xs) r hx (fun n v=>n=S.τ1.length∧v=.agg (us0 ++ [hd0]).toArray) w (cFz xs η) _ (fun n v hn=>by rw [hn.1];exact List.mem_cons_self ..) (fun s n a' g1 g2 g3=>?_) _ w ⟨⟨η,hr,fun n l hl=>?_,⟨Nat.le_refl _,fun _ _ _=>rfl,fun k hk=>.inr hk,fun _ _ h=>h,fun _ _ h=>.inl h,rfl,rfl,rfl,Nat.le_refl _,fun _ _ h=>h.elim⟩⟩,?_,rfl⟩ (fun n v hn=>by rw [hn.1,hn.2];exact htm _ _ hv0)
  · have fin:∀ a2 w2,SS w (cFz xs η) fn.ntmps s a2 w2→KT (fun n v=>n=S.τ1.length∧v=.agg (us0 ++ [hd0]).toArray) a2→a2.defers=[]∧∃ v,(results fn a2.tmps).run P w2=.ok v w2∧((Ending.returned v=.returned (.int S.k r.1))∧(∀ M,HR M η (cmem r.2) w2)∧Fr w (cFz xs η) (cmem r.2) η w2):=by
      intro a2 w2 hss hkt
      obtain ⟨η1,hsr,hfr⟩:=hss.sr
      have e1:=q5u (hsr 0).tr (.tmp d)
      rw [show xev (q80 s.tm .lf) (.tmp d)=.int S.k r.1 from g1] at e1
      have e2:=q5u (hsr 0).tr (.tmp S.τ1.length)
      rw [show xev (q80 s.tm .lf) (.tmp S.τ1.length)=.agg (split S.ρ a' ++ [.rs n]) from g2] at e2
      have e3:a2.eval (.tmp S.τ1.length)=.agg (us0 ++ [hd0]).toArray:=by
        have:=hkt S.τ1.length _ ⟨rfl,rfl⟩
        show a2.tmps.getD S.τ1.length undef=_
        rw [Array.getD_eq_getD_getElem?,this];rfl
      rw [e3] at e2
      have hqn:η1.hdr n=some hd0:=by
        generalize hva:(Value.agg (us0 ++ [hd0]).toArray)=va at e2
        cases e2 with
        | agg hl hh =>
          obtain ⟨ws,u,rfl,k1,k2⟩:=VRs.snoc (η:=η1) ⟨hl,hh⟩
          injection hva with hva
          have hva:=congrArg Array.toList hva
          simp only at hva
          have:=List.append_inj_right' hva rfl
          injection this with this
          subst this
          cases k2 with
          | rs hq=>exact hq
      have hn1:=(hsr 0).hr.live n _ g3
      have gx:(cmem xs).get 0=some (.rows S.σ xs):=by unfold cmem;rw [q85];rfl
      have gm:(cmem r.2).get 0=some (.rows S.σ r.2):=by unfold cmem;rw [q85];rfl
      have hlv:=q1tw ((hr 0).live 0 _ gx) hn1 hp hq0 hqn hfr.size
      have g0:∀ {zs:List (den S.σ)} {j:Nat} {ob:Ob},(cmem zs).get j=some ob→j=0:=fun {zs j ob} hj=>by
        unfold cmem at hj;rw [q85] at hj
        have:=(List.getElem?_eq_some_iff.1 hj).1
        simpa using this
      have hlb:∀ k,LB (cmem r.2) η k→LB (cmem xs) η k:=fun k ⟨j,ob,L',hj,hL',hk⟩=>by
        have:=g0 hj;subst this
        exact ⟨0,_,L',gx,hL',hk⟩
      refine ⟨hss.defers,.int S.k r.1,?_,rfl,fun M=>⟨(hr M).dom,fun j ob hj=>by have:=g0 hj;subst this;exact Nat.one_pos,fun j ob hj=>?_,fun b1 b2 o1 o2 L1 L2 h1 h2 _ _ _=>(g0 h1).trans (g0 h2).symm,fun k ob hk=>(hsr 0).hr.fz k ob (hfr.fz0 k ob hk),fun k hk=>(hr M).sep k (hlb k hk),(hr M).ok⟩,⟨hfr.size,hfr.same,fun k hk=>.inr (hlb k hk),fun _ _ h=>h,fun _ _ h=>.inl h,hfr.os,hfr.tape,hfr.output,hfr.drawn,fun _ _ h=>h.elim⟩⟩
      · have e4:a2.tmps.getD d undef=.int S.k r.1:=by
          have e5:a2.eval (.tmp d)=a2.tmps.getD d undef:=rfl
          rw [← e5]
          generalize a2.eval (.tmp d)=u at e1
          cases e1;rfl
        unfold results
        rw [hres]
        rw [Array.getD_eq_getD_getElem?] at e4
        simp [e4]
      · have := g0 hj; subst this
        rw [gm] at hj;injection hj with hj;subst hj
        exact hlv
    exact ⟨fun a2 w2 hss hk=>fin a2 w2 hss hk,fun a2 w2 hss hk=>fin a2 w2 hss hk⟩
  · obtain ⟨_, h2⟩ := q9p _ 0 n l hl
    rw [Nat.sub_zero] at h2
    obtain ⟨v,e1,e2⟩:=hv.get h2
    exact ⟨v,htm n v e1,e2⟩
  · simp;omega
end
end Go.Tx

namespace Go.Proofs.Ytoakhncbmpdacaa
open Go Go.Tx Go.Proofs.Try
set_option maxRecDepth 100000
set_option maxHeartbeats 0
abbrev q1y5:List Pk:=[]
abbrev q1y6:List Pk:=[.row qks true,.row Rii true,.row Ri false,.row Ri false]
abbrev q1y7:Type:=(Unit)×Di×(qkt×Dii×Di×Di×Unit)×List Diii
abbrev q1y8:Type:=Int×List Diii
def q1y9 (F:q1y7→Option q1y8):MSpec:=⟨88,q1y5,Ri,q1y6,Riii,.i64,fun a b c e=>F (a,b,c,e)⟩
abbrev q1ya:Type:=(qqt→Option qqu)×(q1y7→Option q1y8)×(qpb→Option qpc)×Unit
def q1yb (d:Nat) (me:(q1y7→Option q1y8)):q1ya:=(qqy d,me,qpg d,())
def q1yc (C:q1ya):List Go.Tx.Spec:=[qqw C.1,qpe C.2.2.1]
abbrev q1yd:Type:=Int×List Diii×Int×Int×Int×Int×List Diii
def q1ye (v:q1yd):St:=⟨[(0,.agg [i6 v.1,.rs 0]),(1,.agg [.fz Riii v.2.1]),(2,.agg [i6 v.2.2.1,i6 v.2.2.2.1]),(3,i6 v.2.2.2.2.1),(4,i6 v.2.2.2.2.2.1)],[.rows Riii v.2.2.2.2.2.2]⟩
abbrev q1yf:Type:=Int×Int×Int×List Diii×Int×List Diii×Int×Int
def q1yg (v:q1yf):St:=⟨[(0,.agg [i6 v.1,.rs 0]),(3,i6 v.2.1),(4,i6 v.2.2.1),(5,.ptr 1 0),(6,.ptr 2 0),(7,.ptr 3 0)],[.rows Riii v.2.2.2.1,.cells [i6 v.2.2.2.2.1,.rs 0],.cells [.fz Riii v.2.2.2.2.2.1],.cells [i6 v.2.2.2.2.2.2.1,i6 v.2.2.2.2.2.2.2]]⟩
def q1yh (C:q1ya) (v:q1yd):Dt q1yf:=(Dt.ret (v.1,v.2.2.2.2.1,v.2.2.2.2.2.1,v.2.2.2.2.2.2,v.1,v.2.1,v.2.2.1,v.2.2.2.1))
abbrev q351 {V Y:Type}:=@rg q1ya V Y tysT (fun C=>(orcM (q1y9 C.2.1) (orc (q1yc C)))) 81
theorem q1yi C v:q351 (regO (qea f88) 0) false [(0,.any),(3,.any),(4,.any),(5,(.box [.any,.own Riii])),(6,(.box [.val Riii])),(7,.any)] q1ye q1yh q1yg C v:=rgI (by kernel_rfl)
abbrev q1yj:Type:=Int×Int×Int×Bool×List Diii×Int×List Diii×Int×Int
def q1yk (v:q1yj):St:=⟨[(0,.agg [i6 v.1,.rs 0]),(3,i6 v.2.1),(4,i6 v.2.2.1),(5,.ptr 1 0),(6,.ptr 2 0),(7,.ptr 3 0),(14,.bool v.2.2.2.1)],[.rows Riii v.2.2.2.2.1,.cells [i6 v.2.2.2.2.2.1,.rs 0],.cells [.fz Riii v.2.2.2.2.2.2.1],.cells [i6 v.2.2.2.2.2.2.2.1,i6 v.2.2.2.2.2.2.2.2]]⟩
def q1yl (C:q1ya) (v:q1yf):Dt q1yj:=(Dt.ret (v.1,v.2.1,v.2.2.1,(decide (v.2.1<(0:Int))),v.2.2.2.1,v.2.2.2.2.1,v.2.2.2.2.2.1,v.2.2.2.2.2.2.1,v.2.2.2.2.2.2.2))
theorem q1ym C v:q351 (regO (qea f88) 1) false [(0,.any),(3,.any),(4,.any),(5,(.box [.any,.own Riii])),(6,(.box [.val Riii])),(7,.any),(14,.any)] q1yg q1yl q1yk C v:=rgI (by kernel_rfl)
abbrev q1yn:Type:=Int×Int×List Diii
def q1yo (v:q1yn):St:=⟨[(0,.agg [i6 v.1,.rs 0]),(10,i6 v.2.1)],[.rows Riii v.2.2]⟩
def q1yp (C:q1ya) (v:q1yj):Dt q1yn:=(Dt.ret (v.1,v.2.2.1,v.2.2.2.2.1))
theorem q1yq C v:q351 (regO (qea f88) 2) false (an [0,10]) q1yk q1yp q1yo C v:=rgI (by kernel_rfl)
abbrev q1yr:Type:=Int×Int×Int×Bool×List Diii×Int×List Diii×Int×Int
def q1ys (v:q1yr):St:=⟨[(0,.agg [i6 v.1,.rs 0]),(3,i6 v.2.1),(4,i6 v.2.2.1),(5,.ptr 1 0),(6,.ptr 2 0),(7,.ptr 3 0),(17,.bool v.2.2.2.1)],[.rows Riii v.2.2.2.2.1,.cells [i6 v.2.2.2.2.2.1,.rs 0],.cells [.fz Riii v.2.2.2.2.2.2.1],.cells [i6 v.2.2.2.2.2.2.2.1,i6 v.2.2.2.2.2.2.2.2]]⟩
def q1yt (C:q1ya) (v:q1yj):Dt q1yr:=(Dt.ret (v.1,v.2.1,v.2.2.1,(decide (v.2.2.1<(0:Int))),v.2.2.2.2.1,v.2.2.2.2.2.1,v.2.2.2.2.2.2.1,v.2.2.2.2.2.2.2.1,v.2.2.2.2.2.2.2.2))
theorem q1yu C v:q351 (regO (qea f88) 3) false [(0,.any),(3,.any),(4,.any),(5,(.box [.any,.own Riii])),(6,(.box [.val Riii])),(7,.any),(17,.any)] q1yk q1yt q1ys C v:=rgI (by kernel_rfl)
def q1yv (C:q1ya) (v:q1yr):Dt q1yn:=(Dt.ret (v.1,v.2.1,v.2.2.2.2.1))
theorem q1yw C v:q351 (regO (qea f88) 4) false (an [0,10]) q1ys q1yv q1yo C v:=rgI (by kernel_rfl)
abbrev q1yx:Type:=Int×Int×Int×List Diii×Int×List Diii×Int×Int×Int×Int×Int×Int×Int×Int
def q1yy (v:q1yx):St:=⟨[(0,.agg [i6 v.1,.rs 0]),(3,i6 v.2.1),(4,i6 v.2.2.1),(5,.ptr 1 0),(6,.ptr 2 0),(7,.ptr 3 0),(11,.ptr 4 0),(12,.ptr 5 0)],[.rows Riii v.2.2.2.1,.cells [i6 v.2.2.2.2.1,.rs 0],.cells [.fz Riii v.2.2.2.2.2.1],.cells [i6 v.2.2.2.2.2.2.1,i6 v.2.2.2.2.2.2.2.1],.cells [i6 v.2.2.2.2.2.2.2.2.1,i6 v.2.2.2.2.2.2.2.2.2.1,i6 v.2.2.2.2.2.2.2.2.2.2.1],.cells [i6 v.2.2.2.2.2.2.2.2.2.2.2.1,i6 v.2.2.2.2.2.2.2.2.2.2.2.2.1,i6 v.2.2.2.2.2.2.2.2.2.2.2.2.2]]⟩
def q1yz (C:q1ya) (v:q1yr):Dt q1yx:=(Dt.ite (inB v.2.1 (List.length v.2.2.2.2.1)) (Dt.bnd (C.1 ((v.2.2.2.2.2.2.1,()),((elt ziii v.2.2.2.2.1 (v.2.1).toNat).1,()),())) fun r1=>(Dt.ite (inB r1 (List.length v.2.2.2.2.2.2.1)) (Dt.ite (inB v.2.2.1 (List.length v.2.2.2.2.1)) (Dt.bnd (C.1 ((v.2.2.2.2.2.2.1,()),((elt ziii v.2.2.2.2.1 (v.2.2.1).toNat).1,()),())) fun r2=>(Dt.ite (inB r2 (List.length v.2.2.2.2.2.2.1)) (Dt.ret (v.1,v.2.1,v.2.2.1,v.2.2.2.2.1,v.2.2.2.2.2.1,v.2.2.2.2.2.2.1,v.2.2.2.2.2.2.2.1,v.2.2.2.2.2.2.2.2,(elt ziii v.2.2.2.2.2.2.1 (r1).toNat).1,(elt ziii v.2.2.2.2.2.2.1 (r1).toNat).2.1,(elt ziii v.2.2.2.2.2.2.1 (r1).toNat).2.2.1,(elt ziii v.2.2.2.2.2.2.1 (r2).toNat).1,(elt ziii v.2.2.2.2.2.2.1 (r2).toNat).2.1,(elt ziii v.2.2.2.2.2.2.1 (r2).toNat).2.2.1)) Dt.fail)) Dt.fail) Dt.fail)) Dt.fail)
theorem q1z0 C v:q351 (regO (qea f88) 5) true [(0,.any),(3,.any),(4,.any),(5,(.box [.any,.own Riii])),(6,(.box [.val Riii])),(7,.any),(11,.any),(12,.any)] q1ys q1yz q1yy C v:=rgI (by kernel_rfl)
abbrev q1z1:Type:=Int×Int×Int×Bool×List Diii×Int×List Diii×Int×Int
def q1z2 (v:q1z1):St:=⟨[(0,.agg [i6 v.1,.rs 0]),(3,i6 v.2.1),(4,i6 v.2.2.1),(5,.ptr 1 0),(6,.ptr 2 0),(7,.ptr 3 0),(46,.bool v.2.2.2.1)],[.rows Riii v.2.2.2.2.1,.cells [i6 v.2.2.2.2.2.1,.rs 0],.cells [.fz Riii v.2.2.2.2.2.2.1],.cells [i6 v.2.2.2.2.2.2.2.1,i6 v.2.2.2.2.2.2.2.2]]⟩
def q1z3 (C:q1ya) (v:q1yx):Dt q1z1:=(Dt.bnd (C.2.2.1 ((v.2.2.2.2.2.2.2.2.1,v.2.2.2.2.2.2.2.2.2.1,v.2.2.2.2.2.2.2.2.2.2.1,()),(v.2.2.2.2.2.2.2.2.2.2.2.1,v.2.2.2.2.2.2.2.2.2.2.2.2.1,v.2.2.2.2.2.2.2.2.2.2.2.2.2,()),(v.2.2.2.2.2.2.1,v.2.2.2.2.2.2.2.1,()),())) fun r1=>(Dt.ret (v.1,v.2.1,v.2.2.1,r1,v.2.2.2.1,v.2.2.2.2.1,v.2.2.2.2.2.1,v.2.2.2.2.2.2.1,v.2.2.2.2.2.2.2.1)))
theorem q1z4 C v:q351 (regO (qea f88) 6) false [(0,.any),(3,.any),(4,.any),(5,(.box [.any,.own Riii])),(6,(.box [.val Riii])),(7,.any),(46,.any)] q1yy q1z3 q1z2 C v:=rgI (by kernel_rfl)
abbrev q1z5:Type:=Int×Int×List Diii
def q1z6 (v:q1z5):St:=⟨[(0,.agg [i6 v.1,.rs 0]),(3,i6 v.2.1)],[.rows Riii v.2.2]⟩
def q1z7 (C:q1ya) (v:q1z1):Dt q1z5:=(Dt.ite (inB v.2.1 (List.length v.2.2.2.2.1)) (Dt.bnd (C.2.1 ((()),(v.2.2.2.2.2.1,()),((v.2.2.2.2.2.2.1,()),(v.2.2.2.2.2.2.2.1,v.2.2.2.2.2.2.2.2,()),((elt ziii v.2.2.2.2.1 (v.2.1).toNat).2.2.1,()),(v.2.2.1,()),()),v.2.2.2.2.1)) fun r1=>(Dt.ite (inB v.2.1 (List.length v.2.2.2.2.1)) (Dt.ret (v.1,v.2.1,(List.set r1.2 (v.2.1).toNat ((elt ziii r1.2 (v.2.1).toNat).1,(elt ziii r1.2 (v.2.1).toNat).2.1,r1.1,())))) Dt.fail)) Dt.fail)
theorem q1z8 C v:q351 (regO (qea f88) 7) true (an [0,3]) q1z2 q1z7 q1z6 C v:=rgI (by kernel_rfl)
def q1z9 (C:q1ya) (v:q1z5):Dt q1yn:=(Dt.ret (v.1,v.2.1,v.2.2))
theorem q1za C v:q351 (regO (qea f88) 8) false (an [0,10]) q1z6 q1z9 q1yo C v:=rgI (by kernel_rfl)
abbrev q1zb:Type:=Int×Int×List Diii
def q1zc (v:q1zb):St:=⟨[(0,.agg [i6 v.1,.rs 0]),(4,i6 v.2.1)],[.rows Riii v.2.2]⟩
def q1zd (C:q1ya) (v:q1z1):Dt q1zb:=(Dt.ite (inB v.2.2.1 (List.length v.2.2.2.2.1)) (Dt.bnd (C.2.1 ((()),(v.2.2.2.2.2.1,()),((v.2.2.2.2.2.2.1,()),(v.2.2.2.2.2.2.2.1,v.2.2.2.2.2.2.2.2,()),(v.2.1,()),((elt ziii v.2.2.2.2.1 (v.2.2.1).toNat).2.1,()),()),v.2.2.2.2.1)) fun r1=>(Dt.ite (inB v.2.2.1 (List.length v.2.2.2.2.1)) (Dt.ret (v.1,v.2.2.1,(List.set r1.2 (v.2.2.1).toNat ((elt ziii r1.2 (v.2.2.1).toNat).1,r1.1,(elt ziii r1.2 (v.2.2.1).toNat).2.2.1,())))) Dt.fail)) Dt.fail)
theorem q1ze C v:q351 (regO (qea f88) 9) true (an [0,4]) q1z2 q1zd q1zc C v:=rgI (by kernel_rfl)
def q1zf (C:q1ya) (v:q1zb):Dt q1yn:=(Dt.ret (v.1,v.2.1,v.2.2))
theorem q1zg C v:q351 (regO (qea f88) 10) false (an [0,10]) q1zc q1zf q1yo C v:=rgI (by kernel_rfl)
def q1zh (d:Nat) (me:(q1y7→Option q1y8)) (x:q1y7):Option q1y8 :=
 (q1yh (q1yb d me) (x.2.1.1,x.2.2.1.1.1,x.2.2.1.2.1.1,x.2.2.1.2.1.2.1,x.2.2.1.2.2.1.1,x.2.2.1.2.2.2.1.1,x.2.2.2)).eval fun y0 =>
 (q1yl (q1yb d me) y0).eval fun y1 =>
 bif y1.2.2.2.1 then ((q1yp (q1yb d me) y1).eval fun y2 =>
 some (y2.2.1,y2.2.2)) else ((q1yt (q1yb d me) y1).eval fun y3 =>
 bif y3.2.2.2.1 then ((q1yv (q1yb d me) y3).eval fun y4 =>
 some (y4.2.1,y4.2.2)) else ((q1yz (q1yb d me) y3).eval fun y5 =>
 (q1z3 (q1yb d me) y5).eval fun y6 =>
 bif y6.2.2.2.1 then ((q1z7 (q1yb d me) y6).eval fun y7 =>
 (q1z9 (q1yb d me) y7).eval fun y8 =>
 some (y8.2.1,y8.2.2)) else ((q1zd (q1yb d me) y6).eval fun y9 =>
 (q1zf (q1yb d me) y9).eval fun y10 =>
 some (y10.2.1,y10.2.2))))
theorem q1zi (d:Nat) (me:(q1y7→Option q1y8)) (hme:COKM prog (q1y9 me)):COKM prog (q1y9 (q1zh d me)):=by
 have hm:prog.follows .mixedOrders=true:=mixed
 have hT:=tys
 have hC0:OrcOK prog (orc (q1yc (q1yb d me))):=qe4 (by
  intro S hS
  simp only [q1yc,List.mem_cons,List.not_mem_nil,or_false] at hS
  rcases hS with rfl | rfl
  · exact qr0 d
  · exact qpi d)
 have hC:OrcOK prog (orcM (q1y9 (q1yb d me).2.1) (orc (q1yc (q1yb d me)))):=(q1tv hme rfl hC0)
 refine q1tx (c:=qea f88) (fn:=f88) (d:=10) hT (by kernel_rfl) (by kernel_rfl) (by kernel_rfl) (by decide) (by kernel_rfl) fun x r h V w0 φ0 Q hV hend=>?_
 replace h:q1zh d me x=some r:=h
 unfold q1zh at h
 show RunK prog V w0 φ0 81 (qea f88) ⟨[(0,.agg [.int .i64 x.2.1.1,.rs 0]),(1,.agg [.fz Riii x.2.2.1.1.1]),(2,.agg [.int .i64 x.2.2.1.2.1.1,.int .i64 x.2.2.1.2.1.2.1]),(3,.int .i64 x.2.2.1.2.2.1.1),(4,.int .i64 x.2.2.1.2.2.2.1.1)],[.rows Riii x.2.2.2]⟩ Q
 refine q1tl ?_
 refine q1tq hm hT hC hV (by kernel_rfl) (q1yi (q1yb d me) (x.2.1.1,x.2.2.1.1.1,x.2.2.1.2.1.1,x.2.2.1.2.1.2.1,x.2.2.1.2.2.1.1,x.2.2.1.2.2.2.1.1,x.2.2.2)) h ?_
 intro y0 h
 refine q1t7 (q1tl (q1tl ?_))
 refine q1tq hm hT hC hV (by kernel_rfl) (q1ym (q1yb d me) y0) h ?_
 intro y1 h
 refine q1t7 ?_
 refine q1tp (v:=y1.2.2.2.1) (by kernel_rfl) h ?_ ?_
 ·
  intro h
  refine q1tl ?_
  refine q1tq hm hT hC hV (by kernel_rfl) (q1yq (q1yb d me) y1) h ?_
  intro y2 h
  refine q1t7 (q1tk (q1t9 ?_))
  cases h
  exact (hend _ 0 (y2.1,()) (by kernel_rfl) (by kernel_rfl) (by kernel_rfl)).2
 ·
  intro h
  refine q1th (q1t7 (q1tl (q1tl ?_)))
  refine q1tq hm hT hC hV (by kernel_rfl) (q1yu (q1yb d me) y1) h ?_
  intro y3 h
  refine q1t7 ?_
  refine q1tp (v:=y3.2.2.2.1) (by kernel_rfl) h ?_ ?_
  ·
   intro h
   refine q1tl ?_
   refine q1tq hm hT hC hV (by kernel_rfl) (q1yw (q1yb d me) y3) h ?_
   intro y4 h
   refine q1t7 (q1tk (q1t9 ?_))
   cases h
   exact (hend _ 0 (y4.1,()) (by kernel_rfl) (by kernel_rfl) (by kernel_rfl)).2
  ·
   intro h
   refine q1th (q1t7 (q1tl ?_))
   refine q1tq hm hT hC hV (by kernel_rfl) (q1z0 (q1yb d me) y3) h ?_
   intro y5 h
   refine q1t7 (q1tl (q1tl ?_))
   refine q1tq hm hT hC hV (by kernel_rfl) (q1z4 (q1yb d me) y5) h ?_
   intro y6 h
   refine q1t7 ?_
   refine q1tp (v:=y6.2.2.2.1) (by kernel_rfl) h ?_ ?_
   ·
    intro h
    refine q1tl ?_
    refine q1tq hm hT hC hV (by kernel_rfl) (q1z8 (q1yb d me) y6) h ?_
    intro y7 h
    refine q1t7 (q1tl ?_)
    refine q1tq hm hT hC hV (by kernel_rfl) (q1za (q1yb d me) y7) h ?_
    intro y8 h
    refine q1t7 (q1tk (q1t9 ?_))
    cases h
    exact (hend _ 0 (y8.1,()) (by kernel_rfl) (by kernel_rfl) (by kernel_rfl)).2
   ·
    intro h
    refine q1th (q1t7 (q1tl ?_))
    refine q1tq hm hT hC hV (by kernel_rfl) (q1ze (q1yb d me) y6) h ?_
    intro y9 h
    refine q1t7 (q1tl ?_)
    refine q1tq hm hT hC hV (by kernel_rfl) (q1zg (q1yb d me) y9) h ?_
    intro y10 h
    refine q1t7 (q1tk ?_)
    cases h
    exact (hend _ 0 (y10.1,()) (by kernel_rfl) (by kernel_rfl) (by kernel_rfl)).2
def q1zj (d:Nat):Nat→q1y7→Option q1y8
 | 0,_=>none
 | k+1,x=>q1zh d (q1zj d k) x
def q1zk (d:Nat) (x:q1y7):Option q1y8:=q1zj d d x
theorem q1zl (d:Nat):COKM prog (q1y9 (q1zk d)):=by
 have key:∀ k,COKM prog (q1y9 (q1zj d k)):=fun k=>by
  induction k with
  | zero=>exact ⟨fun x1 a x2 xs r h=>(by cases (show (none:Option q1y8)=some r from h)),⟨f88,qea f88,by kernel_rfl,by kernel_rfl,by decide⟩⟩
  | succ k ih=>exact q1zi d _ ih
 exact key d
abbrev q1zm:List Pk:=[.row qkv true,.row qkv true,.row qks true,.row Rii true]
abbrev q1zn:Type:=qkw×qkw×qkt×Dii×Unit
abbrev q1zo:Type:=Int×List Diii
def q1zp (r:q1zo):LV×List Ob:=(.agg [.int .i64 r.1,.rs 0],[.rows Riii r.2])
def q1zq (F:q1zn→Option q1zo):Go.Tx.Spec:=⟨70,q1zm,q1zo,F,q1zp⟩
abbrev q1zr:Type:=(q1y7→Option q1y8)×Unit
def q1zs (d:Nat):q1zr:=(q1zk d,())
def q1zt (C:q1zr):List Go.Tx.Spec:=[]
abbrev q1zu:Type:=Int×List Diii×Int×List Diii×List Diii×Int×Int
def q1zv (v:q1zu):St:=⟨[(0,.agg [i6 v.1,.fz Riii v.2.1]),(1,.agg [i6 v.2.2.1,.fz Riii v.2.2.2.1]),(2,.agg [.fz Riii v.2.2.2.2.1]),(3,.agg [i6 v.2.2.2.2.2.1,i6 v.2.2.2.2.2.2])],[]⟩
abbrev q1zw:Type:=Int×List Diii×Int×List Diii×List Diii×Int×Int×Int×List Diii
def q1zx (v:q1zw):St:=⟨[(4,.ptr 0 0),(5,.ptr 1 0),(6,.ptr 2 0),(7,.ptr 3 0),(8,.ptr 4 0)],[.cells [i6 v.1,.fz Riii v.2.1],.cells [i6 v.2.2.1,.fz Riii v.2.2.2.1],.cells [.fz Riii v.2.2.2.2.1],.cells [i6 v.2.2.2.2.2.1,i6 v.2.2.2.2.2.2.1],.cells [i6 v.2.2.2.2.2.2.2.1,.rs 5],.rows Riii v.2.2.2.2.2.2.2.2]⟩
def q1zy (C:q1zr) (v:q1zu):Dt q1zw:=(Dt.ret (v.1,v.2.1,v.2.2.1,v.2.2.2.1,v.2.2.2.2.1,v.2.2.2.2.2.1,v.2.2.2.2.2.2,(0:Int),([]:List Diii)))
abbrev q352 {V Y:Type}:=@rg q1zr V Y tysT (fun C=>(orcM (q1y9 C.1) (orc (q1zt C)))) 73
theorem q1zz C v:q352 (regO (qea f70) 0) false [(4,(.box [.any,.val Riii])),(5,(.box [.any,.val Riii])),(6,(.box [.val Riii])),(7,.any),(8,(.box [.any,.own Riii]))] q1zv q1zy q1zx C v:=rgI (by kernel_rfl)
abbrev q200:Type:=Int×Int×List Diii×Int×List Diii×List Diii×Int×Int×Int×List Diii
def q201 (v:q200):St:=⟨[(4,.ptr 0 0),(5,.ptr 1 0),(6,.ptr 2 0),(7,.ptr 3 0),(8,.ptr 4 0),(9,i6 v.1)],[.cells [i6 v.2.1,.fz Riii v.2.2.1],.cells [i6 v.2.2.2.1,.fz Riii v.2.2.2.2.1],.cells [.fz Riii v.2.2.2.2.2.1],.cells [i6 v.2.2.2.2.2.2.1,i6 v.2.2.2.2.2.2.2.1],.cells [i6 v.2.2.2.2.2.2.2.2.1,.rs 5],.rows Riii v.2.2.2.2.2.2.2.2.2]⟩
def q202 (C:q1zr) (v:q1zw):Dt q200:=(Dt.ret ((List.length v.2.1:Int),v.1,v.2.1,v.2.2.1,v.2.2.2.1,v.2.2.2.2.1,v.2.2.2.2.2.1,v.2.2.2.2.2.2.1,v.2.2.2.2.2.2.2.1,v.2.2.2.2.2.2.2.2))
theorem q203 C v:q352 (regO (qea f70) 1) false [(4,(.box [.any,.val Riii])),(5,(.box [.any,.val Riii])),(6,(.box [.val Riii])),(7,.any),(8,(.box [.any,.own Riii])),(9,.any)] q1zx q202 q201 C v:=rgI (by kernel_rfl)
abbrev q204:Type:=Int×Int×List Diii×Int×List Diii×List Diii×Int×Int×Int×List Diii×Int×List Diii
def q205 (v:q204):St:=⟨[(4,.ptr 0 0),(5,.ptr 1 0),(6,.ptr 2 0),(7,.ptr 3 0),(8,.ptr 4 0),(9,i6 v.1),(10,.ptr 6 0)],[.cells [i6 v.2.1,.fz Riii v.2.2.1],.cells [i6 v.2.2.2.1,.fz Riii v.2.2.2.2.1],.cells [.fz Riii v.2.2.2.2.2.1],.cells [i6 v.2.2.2.2.2.2.1,i6 v.2.2.2.2.2.2.2.1],.cells [i6 v.2.2.2.2.2.2.2.2.1,.rs 5],.rows Riii v.2.2.2.2.2.2.2.2.2.1,.cells [i6 v.2.2.2.2.2.2.2.2.2.2.1,.rs 7],.rows Riii v.2.2.2.2.2.2.2.2.2.2.2]⟩
def q206 (C:q1zr) (v:q200):Dt q204:=(Dt.ret (v.1,v.2.1,v.2.2.1,v.2.2.2.1,v.2.2.2.2.1,v.2.2.2.2.2.1,v.2.2.2.2.2.2.1,v.2.2.2.2.2.2.2.1,v.2.2.2.2.2.2.2.2.1,v.2.2.2.2.2.2.2.2.2,(0:Int),([]:List Diii)))
theorem q207 C v:q352 (regO (qea f70) 2) false [(4,(.box [.any,.val Riii])),(5,(.box [.any,.val Riii])),(6,(.box [.val Riii])),(7,.any),(8,(.box [.any,.own Riii])),(9,.any),(10,(.box [.any,.own Riii]))] q201 q206 q205 C v:=rgI (by kernel_rfl)
def q208 (C:q1zr) (v:q204):Dt q204:=(Dt.ite (apB (List.length v.2.2.2.2.2.2.2.2.2.2.2) (List.length v.2.2.1)) (Dt.ret (v.1,v.2.1,v.2.2.1,v.2.2.2.1,v.2.2.2.2.1,v.2.2.2.2.2.1,v.2.2.2.2.2.2.1,v.2.2.2.2.2.2.2.1,v.2.2.2.2.2.2.2.2.1,v.2.2.2.2.2.2.2.2.2.1,v.2.2.2.2.2.2.2.2.2.2.1,(v.2.2.2.2.2.2.2.2.2.2.2++v.2.2.1))) Dt.fail)
theorem q209 C v:q352 (regO (qea f70) 3) false [(4,(.box [.any,.val Riii])),(5,(.box [.any,.val Riii])),(6,(.box [.val Riii])),(7,.any),(8,(.box [.any,.own Riii])),(9,.any),(10,(.box [.any,.own Riii]))] q205 q208 q205 C v:=rgI (by kernel_rfl)
abbrev q20a:Type:=Int×Int×Int×List Diii×Int×List Diii×List Diii×Int×Int×Int×List Diii×Int×List Diii
def q20b (v:q20a):St:=⟨[(4,.ptr 0 0),(5,.ptr 1 0),(6,.ptr 2 0),(7,.ptr 3 0),(8,.ptr 4 0),(9,i6 v.1),(10,.ptr 6 0),(11,i6 v.2.1)],[.cells [i6 v.2.2.1,.fz Riii v.2.2.2.1],.cells [i6 v.2.2.2.2.1,.fz Riii v.2.2.2.2.2.1],.cells [.fz Riii v.2.2.2.2.2.2.1],.cells [i6 v.2.2.2.2.2.2.2.1,i6 v.2.2.2.2.2.2.2.2.1],.cells [i6 v.2.2.2.2.2.2.2.2.2.1,.rs 5],.rows Riii v.2.2.2.2.2.2.2.2.2.2.1,.cells [i6 v.2.2.2.2.2.2.2.2.2.2.2.1,.rs 7],.rows Riii v.2.2.2.2.2.2.2.2.2.2.2.2]⟩
def q20c (C:q1zr) (v:q204):Dt q20a:=(Dt.ret (v.1,(0:Int),v.2.1,v.2.2.1,v.2.2.2.1,v.2.2.2.2.1,v.2.2.2.2.2.1,v.2.2.2.2.2.2.1,v.2.2.2.2.2.2.2.1,v.2.2.2.2.2.2.2.2.1,v.2.2.2.2.2.2.2.2.2.1,v.2.2.2.2.2.2.2.2.2.2.1,v.2.2.2.2.2.2.2.2.2.2.2))
theorem q20d C v:q352 (regO (qea f70) 4) false [(4,(.box [.any,.val Riii])),(5,(.box [.any,.val Riii])),(6,(.box [.val Riii])),(7,.any),(8,(.box [.any,.own Riii])),(9,.any),(10,(.box [.any,.own Riii])),(11,.any)] q205 q20c q20b C v:=rgI (by kernel_rfl)
abbrev q20e:Type:=Int×Int×Bool×Int×List Diii×Int×List Diii×List Diii×Int×Int×Int×List Diii×Int×List Diii
def q20f (v:q20e):St:=⟨[(4,.ptr 0 0),(5,.ptr 1 0),(6,.ptr 2 0),(7,.ptr 3 0),(8,.ptr 4 0),(9,i6 v.1),(10,.ptr 6 0),(11,i6 v.2.1),(27,.bool v.2.2.1)],[.cells [i6 v.2.2.2.1,.fz Riii v.2.2.2.2.1],.cells [i6 v.2.2.2.2.2.1,.fz Riii v.2.2.2.2.2.2.1],.cells [.fz Riii v.2.2.2.2.2.2.2.1],.cells [i6 v.2.2.2.2.2.2.2.2.1,i6 v.2.2.2.2.2.2.2.2.2.1],.cells [i6 v.2.2.2.2.2.2.2.2.2.2.1,.rs 5],.rows Riii v.2.2.2.2.2.2.2.2.2.2.2.1,.cells [i6 v.2.2.2.2.2.2.2.2.2.2.2.2.1,.rs 7],.rows Riii v.2.2.2.2.2.2.2.2.2.2.2.2.2]⟩
def q20g (C:q1zr) (v:q20a):Dt q20e:=(Dt.ret (v.1,v.2.1,(decide (v.2.1<(List.length v.2.2.2.2.2.1:Int))),v.2.2.1,v.2.2.2.1,v.2.2.2.2.1,v.2.2.2.2.2.1,v.2.2.2.2.2.2.1,v.2.2.2.2.2.2.2.1,v.2.2.2.2.2.2.2.2.1,v.2.2.2.2.2.2.2.2.2.1,v.2.2.2.2.2.2.2.2.2.2.1,v.2.2.2.2.2.2.2.2.2.2.2.1,v.2.2.2.2.2.2.2.2.2.2.2.2))
theorem q20h C v:q352 (regO (qea f70) 5) false [(4,(.box [.any,.val Riii])),(5,(.box [.any,.val Riii])),(6,(.box [.val Riii])),(7,.any),(8,(.box [.any,.own Riii])),(9,.any),(10,(.box [.any,.own Riii])),(11,.any),(27,.any)] q20b q20g q20f C v:=rgI (by kernel_rfl)
abbrev q20i:Type:=Int×Int×Int×List Diii×Int×List Diii×List Diii×Int×Int×Int×List Diii×Int×List Diii×Int×Int×Int
def q20j (v:q20i):St:=⟨[(4,.ptr 0 0),(5,.ptr 1 0),(6,.ptr 2 0),(7,.ptr 3 0),(8,.ptr 4 0),(9,i6 v.1),(10,.ptr 6 0),(11,i6 v.2.1),(12,.ptr 8 0)],[.cells [i6 v.2.2.1,.fz Riii v.2.2.2.1],.cells [i6 v.2.2.2.2.1,.fz Riii v.2.2.2.2.2.1],.cells [.fz Riii v.2.2.2.2.2.2.1],.cells [i6 v.2.2.2.2.2.2.2.1,i6 v.2.2.2.2.2.2.2.2.1],.cells [i6 v.2.2.2.2.2.2.2.2.2.1,.rs 5],.rows Riii v.2.2.2.2.2.2.2.2.2.2.1,.cells [i6 v.2.2.2.2.2.2.2.2.2.2.2.1,.rs 7],.rows Riii v.2.2.2.2.2.2.2.2.2.2.2.2.1,.cells [i6 v.2.2.2.2.2.2.2.2.2.2.2.2.2.1,i6 v.2.2.2.2.2.2.2.2.2.2.2.2.2.2.1,i6 v.2.2.2.2.2.2.2.2.2.2.2.2.2.2.2]]⟩
def q20k (C:q1zr) (v:q20e):Dt q20i:=(Dt.ite (inB v.2.1 (List.length v.2.2.2.2.2.2.1)) (Dt.ret (v.1,v.2.1,v.2.2.2.1,v.2.2.2.2.1,v.2.2.2.2.2.1,v.2.2.2.2.2.2.1,v.2.2.2.2.2.2.2.1,v.2.2.2.2.2.2.2.2.1,v.2.2.2.2.2.2.2.2.2.1,v.2.2.2.2.2.2.2.2.2.2.1,v.2.2.2.2.2.2.2.2.2.2.2.1,v.2.2.2.2.2.2.2.2.2.2.2.2.1,v.2.2.2.2.2.2.2.2.2.2.2.2.2,(elt ziii v.2.2.2.2.2.2.1 (v.2.1).toNat).1,(elt ziii v.2.2.2.2.2.2.1 (v.2.1).toNat).2.1,(elt ziii v.2.2.2.2.2.2.1 (v.2.1).toNat).2.2.1)) Dt.fail)
theorem q20l C v:q352 (regO (qea f70) 7) false [(4,(.box [.any,.val Riii])),(5,(.box [.any,.val Riii])),(6,(.box [.val Riii])),(7,.any),(8,(.box [.any,.own Riii])),(9,.any),(10,(.box [.any,.own Riii])),(11,.any),(12,.any)] q20f q20k q20j C v:=rgI (by kernel_rfl)
abbrev q20m:Type:=Int×Int×Bool×Int×List Diii×Int×List Diii×List Diii×Int×Int×Int×List Diii×Int×List Diii×Int×Int×Int
def q20n (v:q20m):St:=⟨[(4,.ptr 0 0),(5,.ptr 1 0),(6,.ptr 2 0),(7,.ptr 3 0),(8,.ptr 4 0),(9,i6 v.1),(10,.ptr 6 0),(11,i6 v.2.1),(12,.ptr 8 0),(37,.bool v.2.2.1)],[.cells [i6 v.2.2.2.1,.fz Riii v.2.2.2.2.1],.cells [i6 v.2.2.2.2.2.1,.fz Riii v.2.2.2.2.2.2.1],.cells [.fz Riii v.2.2.2.2.2.2.2.1],.cells [i6 v.2.2.2.2.2.2.2.2.1,i6 v.2.2.2.2.2.2.2.2.2.1],.cells [i6 v.2.2.2.2.2.2.2.2.2.2.1,.rs 5],.rows Riii v.2.2.2.2.2.2.2.2.2.2.2.1,.cells [i6 v.2.2.2.2.2.2.2.2.2.2.2.2.1,.rs 7],.rows Riii v.2.2.2.2.2.2.2.2.2.2.2.2.2.1,.cells [i6 v.2.2.2.2.2.2.2.2.2.2.2.2.2.2.1,i6 v.2.2.2.2.2.2.2.2.2.2.2.2.2.2.2.1,i6 v.2.2.2.2.2.2.2.2.2.2.2.2.2.2.2.2]]⟩
def q20o (C:q1zr) (v:q20i):Dt q20m:=(Dt.ret (v.1,v.2.1,(decide (v.2.2.2.2.2.2.2.2.2.2.2.2.2.2.1≥(0:Int))),v.2.2.1,v.2.2.2.1,v.2.2.2.2.1,v.2.2.2.2.2.1,v.2.2.2.2.2.2.1,v.2.2.2.2.2.2.2.1,v.2.2.2.2.2.2.2.2.1,v.2.2.2.2.2.2.2.2.2.1,v.2.2.2.2.2.2.2.2.2.2.1,v.2.2.2.2.2.2.2.2.2.2.2.1,v.2.2.2.2.2.2.2.2.2.2.2.2.1,v.2.2.2.2.2.2.2.2.2.2.2.2.2.1,v.2.2.2.2.2.2.2.2.2.2.2.2.2.2.1,v.2.2.2.2.2.2.2.2.2.2.2.2.2.2.2))
theorem q20p C v:q352 (regO (qea f70) 8) false [(4,(.box [.any,.val Riii])),(5,(.box [.any,.val Riii])),(6,(.box [.val Riii])),(7,.any),(8,(.box [.any,.own Riii])),(9,.any),(10,(.box [.any,.own Riii])),(11,.any),(12,.any),(37,.any)] q20j q20o q20n C v:=rgI (by kernel_rfl)
def q20q (C:q1zr) (v:q20m):Dt q20i:=(Dt.ret (v.1,v.2.1,v.2.2.2.1,v.2.2.2.2.1,v.2.2.2.2.2.1,v.2.2.2.2.2.2.1,v.2.2.2.2.2.2.2.1,v.2.2.2.2.2.2.2.2.1,v.2.2.2.2.2.2.2.2.2.1,v.2.2.2.2.2.2.2.2.2.2.1,v.2.2.2.2.2.2.2.2.2.2.2.1,v.2.2.2.2.2.2.2.2.2.2.2.2.1,v.2.2.2.2.2.2.2.2.2.2.2.2.2.1,v.2.2.2.2.2.2.2.2.2.2.2.2.2.2.1,(IntKind.wrap .i64 (v.2.2.2.2.2.2.2.2.2.2.2.2.2.2.2.1+v.1)),v.2.2.2.2.2.2.2.2.2.2.2.2.2.2.2.2))
theorem q20r C v:q352 (regO (qea f70) 9) false [(4,(.box [.any,.val Riii])),(5,(.box [.any,.val Riii])),(6,(.box [.val Riii])),(7,.any),(8,(.box [.any,.own Riii])),(9,.any),(10,(.box [.any,.own Riii])),(11,.any),(12,.any)] q20n q20q q20j C v:=rgI (by kernel_rfl)
abbrev q20s:Type:=Int×Int×Bool×Int×List Diii×Int×List Diii×List Diii×Int×Int×Int×List Diii×Int×List Diii×Int×Int×Int
def q20t (v:q20s):St:=⟨[(4,.ptr 0 0),(5,.ptr 1 0),(6,.ptr 2 0),(7,.ptr 3 0),(8,.ptr 4 0),(9,i6 v.1),(10,.ptr 6 0),(11,i6 v.2.1),(12,.ptr 8 0),(45,.bool v.2.2.1)],[.cells [i6 v.2.2.2.1,.fz Riii v.2.2.2.2.1],.cells [i6 v.2.2.2.2.2.1,.fz Riii v.2.2.2.2.2.2.1],.cells [.fz Riii v.2.2.2.2.2.2.2.1],.cells [i6 v.2.2.2.2.2.2.2.2.1,i6 v.2.2.2.2.2.2.2.2.2.1],.cells [i6 v.2.2.2.2.2.2.2.2.2.2.1,.rs 5],.rows Riii v.2.2.2.2.2.2.2.2.2.2.2.1,.cells [i6 v.2.2.2.2.2.2.2.2.2.2.2.2.1,.rs 7],.rows Riii v.2.2.2.2.2.2.2.2.2.2.2.2.2.1,.cells [i6 v.2.2.2.2.2.2.2.2.2.2.2.2.2.2.1,i6 v.2.2.2.2.2.2.2.2.2.2.2.2.2.2.2.1,i6 v.2.2.2.2.2.2.2.2.2.2.2.2.2.2.2.2]]⟩
def q20u (C:q1zr) (v:q20i):Dt q20s:=(Dt.ret (v.1,v.2.1,(decide (v.2.2.2.2.2.2.2.2.2.2.2.2.2.2.2≥(0:Int))),v.2.2.1,v.2.2.2.1,v.2.2.2.2.1,v.2.2.2.2.2.1,v.2.2.2.2.2.2.1,v.2.2.2.2.2.2.2.1,v.2.2.2.2.2.2.2.2.1,v.2.2.2.2.2.2.2.2.2.1,v.2.2.2.2.2.2.2.2.2.2.1,v.2.2.2.2.2.2.2.2.2.2.2.1,v.2.2.2.2.2.2.2.2.2.2.2.2.1,v.2.2.2.2.2.2.2.2.2.2.2.2.2.1,v.2.2.2.2.2.2.2.2.2.2.2.2.2.2.1,v.2.2.2.2.2.2.2.2.2.2.2.2.2.2.2))
theorem q20v C v:q352 (regO (qea f70) 10) false [(4,(.box [.any,.val Riii])),(5,(.box [.any,.val Riii])),(6,(.box [.val Riii])),(7,.any),(8,(.box [.any,.own Riii])),(9,.any),(10,(.box [.any,.own Riii])),(11,.any),(12,.any),(45,.any)] q20j q20u q20t C v:=rgI (by kernel_rfl)
def q20w (C:q1zr) (v:q20s):Dt q20i:=(Dt.ret (v.1,v.2.1,v.2.2.2.1,v.2.2.2.2.1,v.2.2.2.2.2.1,v.2.2.2.2.2.2.1,v.2.2.2.2.2.2.2.1,v.2.2.2.2.2.2.2.2.1,v.2.2.2.2.2.2.2.2.2.1,v.2.2.2.2.2.2.2.2.2.2.1,v.2.2.2.2.2.2.2.2.2.2.2.1,v.2.2.2.2.2.2.2.2.2.2.2.2.1,v.2.2.2.2.2.2.2.2.2.2.2.2.2.1,v.2.2.2.2.2.2.2.2.2.2.2.2.2.2.1,v.2.2.2.2.2.2.2.2.2.2.2.2.2.2.2.1,(IntKind.wrap .i64 (v.2.2.2.2.2.2.2.2.2.2.2.2.2.2.2.2+v.1))))
theorem q20x C v:q352 (regO (qea f70) 11) false [(4,(.box [.any,.val Riii])),(5,(.box [.any,.val Riii])),(6,(.box [.val Riii])),(7,.any),(8,(.box [.any,.own Riii])),(9,.any),(10,(.box [.any,.own Riii])),(11,.any),(12,.any)] q20t q20w q20j C v:=rgI (by kernel_rfl)
def q20y (C:q1zr) (v:q20i):Dt q20a:=(Dt.ite (apB (List.length v.2.2.2.2.2.2.2.2.2.2.2.2.1) (List.length ([(v.2.2.2.2.2.2.2.2.2.2.2.2.2.1,v.2.2.2.2.2.2.2.2.2.2.2.2.2.2.1,v.2.2.2.2.2.2.2.2.2.2.2.2.2.2.2,())]:List Diii))) (Dt.ret (v.1,v.2.1,v.2.2.1,v.2.2.2.1,v.2.2.2.2.1,v.2.2.2.2.2.1,v.2.2.2.2.2.2.1,v.2.2.2.2.2.2.2.1,v.2.2.2.2.2.2.2.2.1,v.2.2.2.2.2.2.2.2.2.1,v.2.2.2.2.2.2.2.2.2.2.1,v.2.2.2.2.2.2.2.2.2.2.2.1,(v.2.2.2.2.2.2.2.2.2.2.2.2.1++([(v.2.2.2.2.2.2.2.2.2.2.2.2.2.1,v.2.2.2.2.2.2.2.2.2.2.2.2.2.2.1,v.2.2.2.2.2.2.2.2.2.2.2.2.2.2.2,())]:List Diii)))) Dt.fail)
theorem q20z C v:q352 (regO (qea f70) 12) false [(4,(.box [.any,.val Riii])),(5,(.box [.any,.val Riii])),(6,(.box [.val Riii])),(7,.any),(8,(.box [.any,.own Riii])),(9,.any),(10,(.box [.any,.own Riii])),(11,.any)] q20j q20y q20b C v:=rgI (by kernel_rfl)
def q210 (C:q1zr) (v:q20a):Dt q20a:=(Dt.ret (v.1,(IntKind.wrap .i64 (v.2.1+(1:Int))),v.2.2.1,v.2.2.2.1,v.2.2.2.2.1,v.2.2.2.2.2.1,v.2.2.2.2.2.2.1,v.2.2.2.2.2.2.2.1,v.2.2.2.2.2.2.2.2.1,v.2.2.2.2.2.2.2.2.2.1,v.2.2.2.2.2.2.2.2.2.2.1,v.2.2.2.2.2.2.2.2.2.2.2.1,v.2.2.2.2.2.2.2.2.2.2.2.2))
theorem q211 C v:q352 (regO (qea f70) 6) false [(4,(.box [.any,.val Riii])),(5,(.box [.any,.val Riii])),(6,(.box [.val Riii])),(7,.any),(8,(.box [.any,.own Riii])),(9,.any),(10,(.box [.any,.own Riii])),(11,.any)] q20b q210 q20b C v:=rgI (by kernel_rfl)
def q212  (d:Nat) (self1:(Int×Int×Int×List Diii×Int×List Diii×List Diii×Int×Int×Int×List Diii×Int×List Diii)→Option q1zo) (z:Int×Int×Int×List Diii×Int×List Diii×List Diii×Int×Int×Int×List Diii×Int×List Diii×Int×Int×Int):Option (q1zo) :=
 (q20y (q1zs d) z).eval fun y12 =>
 (q210 (q1zs d) y12).eval fun y6 =>
 self1 y6
def q213  (d:Nat) (self1:(Int×Int×Int×List Diii×Int×List Diii×List Diii×Int×Int×Int×List Diii×Int×List Diii)→Option q1zo) (z:Int×Int×Int×List Diii×Int×List Diii×List Diii×Int×Int×Int×List Diii×Int×List Diii×Int×Int×Int):Option (q1zo) :=
 (q20u (q1zs d) z).eval fun y10 =>
 bif y10.2.2.1 then ((q20w (q1zs d) y10).eval fun y11 =>
 q212 d self1 y11) else (q212 d self1 (y10.1,y10.2.1,y10.2.2.2.1,y10.2.2.2.2.1,y10.2.2.2.2.2.1,y10.2.2.2.2.2.2.1,y10.2.2.2.2.2.2.2.1,y10.2.2.2.2.2.2.2.2.1,y10.2.2.2.2.2.2.2.2.2.1,y10.2.2.2.2.2.2.2.2.2.2.1,y10.2.2.2.2.2.2.2.2.2.2.2.1,y10.2.2.2.2.2.2.2.2.2.2.2.2.1,y10.2.2.2.2.2.2.2.2.2.2.2.2.2.1,y10.2.2.2.2.2.2.2.2.2.2.2.2.2.2.1,y10.2.2.2.2.2.2.2.2.2.2.2.2.2.2.2.1,y10.2.2.2.2.2.2.2.2.2.2.2.2.2.2.2.2))
abbrev q214:Type:=Int×Int×Int×List Diii×List Diii×Int×Int×Int×List Diii×Int×List Diii
def q215 (v:q214):St:=⟨[(4,.ptr 0 0),(6,.ptr 1 0),(7,.ptr 2 0),(8,.ptr 3 0),(9,i6 v.1),(10,.ptr 5 0),(13,i6 v.2.1)],[.cells [i6 v.2.2.1,.fz Riii v.2.2.2.1],.cells [.fz Riii v.2.2.2.2.1],.cells [i6 v.2.2.2.2.2.1,i6 v.2.2.2.2.2.2.1],.cells [i6 v.2.2.2.2.2.2.2.1,.rs 4],.rows Riii v.2.2.2.2.2.2.2.2.1,.cells [i6 v.2.2.2.2.2.2.2.2.2.1,.rs 6],.rows Riii v.2.2.2.2.2.2.2.2.2.2]⟩
def q216 (C:q1zr) (v:q20e):Dt q214:=(Dt.ret (v.1,v.2.2.2.2.2.1,v.2.2.2.1,v.2.2.2.2.1,v.2.2.2.2.2.2.2.1,v.2.2.2.2.2.2.2.2.1,v.2.2.2.2.2.2.2.2.2.1,v.2.2.2.2.2.2.2.2.2.2.1,v.2.2.2.2.2.2.2.2.2.2.2.1,v.2.2.2.2.2.2.2.2.2.2.2.2.1,v.2.2.2.2.2.2.2.2.2.2.2.2.2))
theorem q217 C v:q352 (regO (qea f70) 13) false [(4,(.box [.any,.val Riii])),(6,(.box [.val Riii])),(7,.any),(8,(.box [.any,.own Riii])),(9,.any),(10,(.box [.any,.own Riii])),(13,.any)] q20f q216 q215 C v:=rgI (by kernel_rfl)
abbrev q218:Type:=Int×Int×Bool×Int×List Diii×List Diii×Int×Int×Int×List Diii×Int×List Diii
def q219 (v:q218):St:=⟨[(4,.ptr 0 0),(6,.ptr 1 0),(7,.ptr 2 0),(8,.ptr 3 0),(9,i6 v.1),(10,.ptr 5 0),(13,i6 v.2.1),(60,.bool v.2.2.1)],[.cells [i6 v.2.2.2.1,.fz Riii v.2.2.2.2.1],.cells [.fz Riii v.2.2.2.2.2.1],.cells [i6 v.2.2.2.2.2.2.1,i6 v.2.2.2.2.2.2.2.1],.cells [i6 v.2.2.2.2.2.2.2.2.1,.rs 4],.rows Riii v.2.2.2.2.2.2.2.2.2.1,.cells [i6 v.2.2.2.2.2.2.2.2.2.2.1,.rs 6],.rows Riii v.2.2.2.2.2.2.2.2.2.2.2]⟩
def q21a (C:q1zr) (v:q214):Dt q218:=(Dt.ret (v.1,v.2.1,(decide (v.2.1≥(0:Int))),v.2.2.1,v.2.2.2.1,v.2.2.2.2.1,v.2.2.2.2.2.1,v.2.2.2.2.2.2.1,v.2.2.2.2.2.2.2.1,v.2.2.2.2.2.2.2.2.1,v.2.2.2.2.2.2.2.2.2.1,v.2.2.2.2.2.2.2.2.2.2))
theorem q21b C v:q352 (regO (qea f70) 14) false [(4,(.box [.any,.val Riii])),(6,(.box [.val Riii])),(7,.any),(8,(.box [.any,.own Riii])),(9,.any),(10,(.box [.any,.own Riii])),(13,.any),(60,.any)] q215 q21a q219 C v:=rgI (by kernel_rfl)
abbrev q21c:Type:=Int×Int×List Diii×List Diii×Int×Int×Int×List Diii×Int×List Diii
def q21d (v:q21c):St:=⟨[(4,.ptr 0 0),(6,.ptr 1 0),(7,.ptr 2 0),(8,.ptr 3 0),(10,.ptr 5 0),(13,i6 v.1)],[.cells [i6 v.2.1,.fz Riii v.2.2.1],.cells [.fz Riii v.2.2.2.1],.cells [i6 v.2.2.2.2.1,i6 v.2.2.2.2.2.1],.cells [i6 v.2.2.2.2.2.2.1,.rs 4],.rows Riii v.2.2.2.2.2.2.2.1,.cells [i6 v.2.2.2.2.2.2.2.2.1,.rs 6],.rows Riii v.2.2.2.2.2.2.2.2.2]⟩
def q21e (C:q1zr) (v:q218):Dt q21c:=(Dt.ret ((IntKind.wrap .i64 (v.2.1+v.1)),v.2.2.2.1,v.2.2.2.2.1,v.2.2.2.2.2.1,v.2.2.2.2.2.2.1,v.2.2.2.2.2.2.2.1,v.2.2.2.2.2.2.2.2.1,v.2.2.2.2.2.2.2.2.2.1,v.2.2.2.2.2.2.2.2.2.2.1,v.2.2.2.2.2.2.2.2.2.2.2))
theorem q21f C v:q352 (regO (qea f70) 15) false [(4,(.box [.any,.val Riii])),(6,(.box [.val Riii])),(7,.any),(8,(.box [.any,.own Riii])),(10,(.box [.any,.own Riii])),(13,.any)] q219 q21e q21d C v:=rgI (by kernel_rfl)
abbrev q21g:Type:=Int×List Diii×Int×List Diii
def q21h (v:q21g):St:=⟨[(8,.ptr 0 0),(10,.ptr 2 0)],[.cells [i6 v.1,.rs 1],.rows Riii v.2.1,.cells [i6 v.2.2.1,.rs 3],.rows Riii v.2.2.2]⟩
def q21i (C:q1zr) (v:q21c):Dt q21g:=(Dt.bnd (C.1 ((()),(v.2.2.2.2.2.2.2.2.1,()),((v.2.2.2.1,()),(v.2.2.2.2.1,v.2.2.2.2.2.1,()),(v.2.1,()),(v.1,()),()),v.2.2.2.2.2.2.2.2.2)) fun r1=>(Dt.ret (v.2.2.2.2.2.2.1,v.2.2.2.2.2.2.2.1,r1.1,r1.2)))
theorem q21j C v:q352 (regO (qea f70) 16) false [(8,(.box [.any,.own Riii])),(10,(.box [.any,.own Riii]))] q21d q21i q21h C v:=rgI (by kernel_rfl)
abbrev q21k:Type:=Int×List Diii
def q21l (v:q21k):St:=⟨[(8,.ptr 0 0)],[.cells [i6 v.1,.rs 1],.rows Riii v.2]⟩
def q21m (C:q1zr) (v:q21g):Dt q21k:=(Dt.ret (v.2.2.1,v.2.2.2))
theorem q21n C v:q352 (regO (qea f70) 17) false [(8,(.box [.any,.own Riii]))] q21h q21m q21l C v:=rgI (by kernel_rfl)
def q21o  (d:Nat)  (z:Int×Int×List Diii×List Diii×Int×Int×Int×List Diii×Int×List Diii):Option (q1zo) :=
 (q21i (q1zs d) z).eval fun y16 =>
 (q21m (q1zs d) y16).eval fun y17 =>
 some y17
def q21p (d:Nat) (self1:(Int×Int×Int×List Diii×Int×List Diii×List Diii×Int×Int×Int×List Diii×Int×List Diii)→Option q1zo) (x1:Int×Int×Int×List Diii×Int×List Diii×List Diii×Int×Int×Int×List Diii×Int×List Diii):Option q1zo :=
 (q20g (q1zs d) x1).eval fun y5 =>
 bif y5.2.2.1 then ((q20k (q1zs d) y5).eval fun y7 =>
 (q20o (q1zs d) y7).eval fun y8 =>
 bif y8.2.2.1 then ((q20q (q1zs d) y8).eval fun y9 =>
 q213 d self1 y9) else (q213 d self1 (y8.1,y8.2.1,y8.2.2.2.1,y8.2.2.2.2.1,y8.2.2.2.2.2.1,y8.2.2.2.2.2.2.1,y8.2.2.2.2.2.2.2.1,y8.2.2.2.2.2.2.2.2.1,y8.2.2.2.2.2.2.2.2.2.1,y8.2.2.2.2.2.2.2.2.2.2.1,y8.2.2.2.2.2.2.2.2.2.2.2.1,y8.2.2.2.2.2.2.2.2.2.2.2.2.1,y8.2.2.2.2.2.2.2.2.2.2.2.2.2.1,y8.2.2.2.2.2.2.2.2.2.2.2.2.2.2.1,y8.2.2.2.2.2.2.2.2.2.2.2.2.2.2.2.1,y8.2.2.2.2.2.2.2.2.2.2.2.2.2.2.2.2))) else ((q216 (q1zs d) y5).eval fun y13 =>
 (q21a (q1zs d) y13).eval fun y14 =>
 bif y14.2.2.1 then ((q21e (q1zs d) y14).eval fun y15 =>
 q21o d  y15) else (q21o d  (y14.2.1,y14.2.2.2.1,y14.2.2.2.2.1,y14.2.2.2.2.2.1,y14.2.2.2.2.2.2.1,y14.2.2.2.2.2.2.2.1,y14.2.2.2.2.2.2.2.2.1,y14.2.2.2.2.2.2.2.2.2.1,y14.2.2.2.2.2.2.2.2.2.2.1,y14.2.2.2.2.2.2.2.2.2.2.2)))
def q21q (d:Nat) (x:q1zn):Option q1zo :=
 (q1zy (q1zs d) (x.1.1,x.1.2.1,x.2.1.1,x.2.1.2.1,x.2.2.1.1,x.2.2.2.1.1,x.2.2.2.1.2.1)).eval fun y0 =>
 (q202 (q1zs d) y0).eval fun y1 =>
 (q206 (q1zs d) y1).eval fun y2 =>
 (q208 (q1zs d) y2).eval fun y3 =>
 (q20c (q1zs d) y3).eval fun y4 =>
 iter (q21p d ) d y4
theorem q21r (d:Nat):COK prog (q1zq (q21q d)):=by
 have hm:prog.follows .mixedOrders=true:=mixed
 have hT:=tys
 have hC0:OrcOK prog (orc (q1zt (q1zs d))):=qe4 (by
  intro S hS
  simp only [q1zt,List.mem_cons,List.not_mem_nil,or_false] at hS
  all_goals first | cases hS | exact hS.elim)
 have hC:OrcOK prog (orcM (q1y9 (q1zs d).1) (orc (q1zt (q1zs d)))):=(q1tv (q1zl d) rfl hC0)
 refine q9t (c:=qea f70) (fn:=f70) hT (by kernel_rfl) (by kernel_rfl) (by decide) fun x r h w0 φ0 Q hend=>?_
 replace h:q21q d x=some r:=h
 unfold q21q at h
 show Run prog w0 φ0 73 (qea f70) ⟨[(0,.agg [.int .i64 x.1.1,.fz Riii x.1.2.1]),(1,.agg [.int .i64 x.2.1.1,.fz Riii x.2.1.2.1]),(2,.agg [.fz Riii x.2.2.1.1]),(3,.agg [.int .i64 x.2.2.2.1.1,.int .i64 x.2.2.2.1.2.1])],[]⟩ Q
 refine q344 hm hT hC (q1zz (q1zs d) (x.1.1,x.1.2.1,x.2.1.1,x.2.1.2.1,x.2.2.1.1,x.2.2.2.1.1,x.2.2.2.1.2.1)) h fun y0 h=>?_
 refine q344 hm hT hC (q203 (q1zs d) y0) h fun y1 h=>?_
 refine q344 hm hT hC (q207 (q1zs d) y1) h fun y2 h=>?_
 refine q344 hm hT hC (q209 (q1zs d) y2) h fun y3 h=>?_
 refine q9d ?_
 refine q344 hm hT hC (q20d (q1zs d) y3) h fun y4 h=>?_
 refine q9e ?_
 refine q9j (G:=iter (q21p d )) (S:=(fun x1=>⟨[(4,.ptr 0 0),(5,.ptr 1 0),(6,.ptr 2 0),(7,.ptr 3 0),(8,.ptr 4 0),(9,i6 x1.1),(10,.ptr 6 0),(11,i6 x1.2.1)],[.cells [i6 x1.2.2.1,.fz Riii x1.2.2.2.1],.cells [i6 x1.2.2.2.2.1,.fz Riii x1.2.2.2.2.2.1],.cells [.fz Riii x1.2.2.2.2.2.2.1],.cells [i6 x1.2.2.2.2.2.2.2.1,i6 x1.2.2.2.2.2.2.2.2.1],.cells [i6 x1.2.2.2.2.2.2.2.2.2.1,.rs 5],.rows Riii x1.2.2.2.2.2.2.2.2.2.2.1,.cells [i6 x1.2.2.2.2.2.2.2.2.2.2.2.1,.rs 7],.rows Riii x1.2.2.2.2.2.2.2.2.2.2.2.2]⟩:Int×Int×Int×List Diii×Int×List Diii×List Diii×Int×Int×Int×List Diii×Int×List Diii→St)) (fun _=>rfl) ?_ d _ h
 intro n1 x1 h K1 hn1
 replace h:q21p d  (iter (q21p d ) n1) x1=some r:=h
 generalize iter (q21p d ) n1=self1 at h hn1
 unfold q21p at h
 refine q9d ?_
 refine q344 hm hT hC (q20h (q1zs d) x1) h fun y5 h=>?_
 refine q9h (v:=y5.2.2.1) (by kernel_rfl) h ?_ ?_
 ·
  intro h
  refine q99 (q8z (q9d (q9e ?_)))
  refine q344 hm hT hC (q20l (q1zs d) y5) h fun y7 h=>?_
  refine q9g (r:=r) (F:=q213 d self1) (S:=(fun z=>⟨[(4,.ptr 0 0),(5,.ptr 1 0),(6,.ptr 2 0),(7,.ptr 3 0),(8,.ptr 4 0),(9,i6 z.1),(10,.ptr 6 0),(11,i6 z.2.1),(12,.ptr 8 0)],[.cells [i6 z.2.2.1,.fz Riii z.2.2.2.1],.cells [i6 z.2.2.2.2.1,.fz Riii z.2.2.2.2.2.1],.cells [.fz Riii z.2.2.2.2.2.2.1],.cells [i6 z.2.2.2.2.2.2.2.1,i6 z.2.2.2.2.2.2.2.2.1],.cells [i6 z.2.2.2.2.2.2.2.2.2.1,.rs 5],.rows Riii z.2.2.2.2.2.2.2.2.2.2.1,.cells [i6 z.2.2.2.2.2.2.2.2.2.2.2.1,.rs 7],.rows Riii z.2.2.2.2.2.2.2.2.2.2.2.2.1,.cells [i6 z.2.2.2.2.2.2.2.2.2.2.2.2.2.1,i6 z.2.2.2.2.2.2.2.2.2.2.2.2.2.2.1,i6 z.2.2.2.2.2.2.2.2.2.2.2.2.2.2.2]]⟩:Int×Int×Int×List Diii×Int×List Diii×List Diii×Int×Int×Int×List Diii×Int×List Diii×Int×Int×Int→St)) ?_ ?_
  ·
   intro z h
   unfold q213 at h
   refine q9g (r:=r) (F:=q212 d self1) (S:=(fun z=>⟨[(4,.ptr 0 0),(5,.ptr 1 0),(6,.ptr 2 0),(7,.ptr 3 0),(8,.ptr 4 0),(9,i6 z.1),(10,.ptr 6 0),(11,i6 z.2.1),(12,.ptr 8 0)],[.cells [i6 z.2.2.1,.fz Riii z.2.2.2.1],.cells [i6 z.2.2.2.2.1,.fz Riii z.2.2.2.2.2.1],.cells [.fz Riii z.2.2.2.2.2.2.1],.cells [i6 z.2.2.2.2.2.2.2.1,i6 z.2.2.2.2.2.2.2.2.1],.cells [i6 z.2.2.2.2.2.2.2.2.2.1,.rs 5],.rows Riii z.2.2.2.2.2.2.2.2.2.2.1,.cells [i6 z.2.2.2.2.2.2.2.2.2.2.2.1,.rs 7],.rows Riii z.2.2.2.2.2.2.2.2.2.2.2.2.1,.cells [i6 z.2.2.2.2.2.2.2.2.2.2.2.2.2.1,i6 z.2.2.2.2.2.2.2.2.2.2.2.2.2.2.1,i6 z.2.2.2.2.2.2.2.2.2.2.2.2.2.2.2]]⟩:Int×Int×Int×List Diii×Int×List Diii×List Diii×Int×Int×Int×List Diii×Int×List Diii×Int×Int×Int→St)) ?_ ?_
   ·
    intro z h
    unfold q212 at h
    refine q9i hm hT hC (q20z (q1zs d) z) h ?_
    intro y12 h
    refine q92 (q8z ?_)
    refine q9i hm hT hC (q211 (q1zs d) y12) h ?_
    intro y6 h
    exact hn1 _ h
   intro hj3
   refine q344 hm hT hC (q20v (q1zs d) z) h fun y10 h=>?_
   refine q9h (v:=y10.2.2.1) (by kernel_rfl) h ?_ ?_
   ·
    intro h
    refine q9i hm hT hC (q20x (q1zs d) y10) h ?_
    intro y11 h
    exact hj3 _ h
   ·
    intro h
    refine q99 ?_
    refine qe9 (s:=⟨[(4,.ptr 0 0),(5,.ptr 1 0),(6,.ptr 2 0),(7,.ptr 3 0),(8,.ptr 4 0),(9,.int .i64 y10.1),(10,.ptr 6 0),(11,.int .i64 y10.2.1),(12,.ptr 8 0)],[.cells [.int .i64 y10.2.2.2.1,.fz Riii y10.2.2.2.2.1],.cells [.int .i64 y10.2.2.2.2.2.1,.fz Riii y10.2.2.2.2.2.2.1],.cells [.fz Riii y10.2.2.2.2.2.2.2.1],.cells [.int .i64 y10.2.2.2.2.2.2.2.2.1,.int .i64 y10.2.2.2.2.2.2.2.2.2.1],.cells [.int .i64 y10.2.2.2.2.2.2.2.2.2.2.1,.rs 5],.rows Riii y10.2.2.2.2.2.2.2.2.2.2.2.1,.cells [.int .i64 y10.2.2.2.2.2.2.2.2.2.2.2.2.1,.rs 7],.rows Riii y10.2.2.2.2.2.2.2.2.2.2.2.2.2.1,.cells [.int .i64 y10.2.2.2.2.2.2.2.2.2.2.2.2.2.2.1,.int .i64 y10.2.2.2.2.2.2.2.2.2.2.2.2.2.2.2.1,.int .i64 y10.2.2.2.2.2.2.2.2.2.2.2.2.2.2.2.2]]⟩) [45] (by kernel_rfl) ?_
    exact hj3 _ h
  intro hj2
  refine q344 hm hT hC (q20p (q1zs d) y7) h fun y8 h=>?_
  refine q9h (v:=y8.2.2.1) (by kernel_rfl) h ?_ ?_
  ·
   intro h
   refine q9i hm hT hC (q20r (q1zs d) y8) h ?_
   intro y9 h
   exact hj2 _ h
  ·
   intro h
   refine q99 ?_
   refine qe9 (s:=⟨[(4,.ptr 0 0),(5,.ptr 1 0),(6,.ptr 2 0),(7,.ptr 3 0),(8,.ptr 4 0),(9,.int .i64 y8.1),(10,.ptr 6 0),(11,.int .i64 y8.2.1),(12,.ptr 8 0)],[.cells [.int .i64 y8.2.2.2.1,.fz Riii y8.2.2.2.2.1],.cells [.int .i64 y8.2.2.2.2.2.1,.fz Riii y8.2.2.2.2.2.2.1],.cells [.fz Riii y8.2.2.2.2.2.2.2.1],.cells [.int .i64 y8.2.2.2.2.2.2.2.2.1,.int .i64 y8.2.2.2.2.2.2.2.2.2.1],.cells [.int .i64 y8.2.2.2.2.2.2.2.2.2.2.1,.rs 5],.rows Riii y8.2.2.2.2.2.2.2.2.2.2.2.1,.cells [.int .i64 y8.2.2.2.2.2.2.2.2.2.2.2.2.1,.rs 7],.rows Riii y8.2.2.2.2.2.2.2.2.2.2.2.2.2.1,.cells [.int .i64 y8.2.2.2.2.2.2.2.2.2.2.2.2.2.2.1,.int .i64 y8.2.2.2.2.2.2.2.2.2.2.2.2.2.2.2.1,.int .i64 y8.2.2.2.2.2.2.2.2.2.2.2.2.2.2.2.2]]⟩) [37] (by kernel_rfl) ?_
   exact hj2 _ h
 ·
  intro h
  refine q9b (q90 (q90 (q94 (q8z ?_))))
  refine q344 hm hT hC (q217 (q1zs d) y5) h fun y13 h=>?_
  refine q9g (r:=r) (F:=q21o d ) (S:=(fun z=>⟨[(4,.ptr 0 0),(6,.ptr 1 0),(7,.ptr 2 0),(8,.ptr 3 0),(10,.ptr 5 0),(13,i6 z.1)],[.cells [i6 z.2.1,.fz Riii z.2.2.1],.cells [.fz Riii z.2.2.2.1],.cells [i6 z.2.2.2.2.1,i6 z.2.2.2.2.2.1],.cells [i6 z.2.2.2.2.2.2.1,.rs 4],.rows Riii z.2.2.2.2.2.2.2.1,.cells [i6 z.2.2.2.2.2.2.2.2.1,.rs 6],.rows Riii z.2.2.2.2.2.2.2.2.2]⟩:Int×Int×List Diii×List Diii×Int×Int×Int×List Diii×Int×List Diii→St)) ?_ ?_
  ·
   intro z h
   unfold q21o at h
   refine q344 hm hT hC (q21j (q1zs d) z) h fun y16 h=>?_
   refine q344 hm hT hC (q21n (q1zs d) y16) h fun y17 h=>?_
   refine q9c ?_
   cases h
   exact (hend _ (by kernel_rfl)).2
  intro hj4
  refine q344 hm hT hC (q21b (q1zs d) y13) h fun y14 h=>?_
  refine q9h (v:=y14.2.2.1) (by kernel_rfl) h ?_ ?_
  ·
   intro h
   refine q9i hm hT hC (q21f (q1zs d) y14) h ?_
   intro y15 h
   exact hj4 _ h
  ·
   intro h
   refine q99 ?_
   refine qe9 (s:=⟨[(4,.ptr 0 0),(6,.ptr 1 0),(7,.ptr 2 0),(8,.ptr 3 0),(10,.ptr 5 0),(13,.int .i64 y14.2.1)],[.cells [.int .i64 y14.2.2.2.1,.fz Riii y14.2.2.2.2.1],.cells [.fz Riii y14.2.2.2.2.2.1],.cells [.int .i64 y14.2.2.2.2.2.2.1,.int .i64 y14.2.2.2.2.2.2.2.1],.cells [.int .i64 y14.2.2.2.2.2.2.2.2.1,.rs 4],.rows Riii y14.2.2.2.2.2.2.2.2.2.1,.cells [.int .i64 y14.2.2.2.2.2.2.2.2.2.2.1,.rs 6],.rows Riii y14.2.2.2.2.2.2.2.2.2.2.2]⟩) [9,60] (by kernel_rfl) ?_
   exact hj4 _ h
end Go.Proofs.Ytoakhncbmpdacaa

namespace Go.Tx
open Go
section
variable {P:Program} {T:Tys} {C:Orc} {w0:World} {φ0:Fz0} {N:Nat} {Q:Exit→Act→World→Prop}
theorem q21s (hm:P.follows .mixedOrders=true) (hT:TysOK P T) (hC:OrcOK P C) {rid:Nat} {ops:Array Oper} {draw:Bool} {keep:List (Nat×Kd)} {s s2:St} (hreg:treg T C N ops draw keep s some=some s2) (hk:Cn w0 φ0 N s2 Q .normal):Run P w0 φ0 N (.region rid ops draw) s Q:=by
  obtain ⟨s',h3,h4⟩:=q8y (D:=φ0.D) hm hT hC hreg
  injection h3 with h3;subst h3
  exact fun a w hs=>h4 w0 φ0 rid a w Q rfl hs hk
theorem q21t {a:Act} {o:Oper} {d n:Nat} {v u:Value} (hd:o.dst=some d) (hne:n≠d) (h:a.tmps[n]?=some u):(a.put o.dst v).tmps[n]?=some u:=by
  rw [hd]
  show (a.tmps.setIfInBounds d v)[n]?=some u
  rw [Array.getElem?_setIfInBounds_ne (Ne.symm hne)];exact h
theorem q21u {a:Act} {o:Oper} {d:Nat} {v:Value} (hd:o.dst=some d) (hlt:d<a.tmps.size):(a.put o.dst v).tmps[d]?=some v:=by
  rw [hd]
  show (a.tmps.setIfInBounds d v)[d]?=some v
  rw [Array.getElem?_setIfInBounds_self_of_lt hlt]
theorem q21v {a:Act} {d:Option Tmp} {v:Value}:(a.put d v).tmps.size=a.tmps.size:=by
  cases d with
  | none=>rfl
  | some d=>exact Array.size_setIfInBounds ..
theorem q21w {a:Act} {d:Option Tmp} {v:Value}:(a.put d v).defers=a.defers:=by
  cases d<;>rfl
theorem q21x {α:Type} {c:Bool} {a:α} (h:c=true):(bif c then some a else none)=some a:=by rw [h];rfl
theorem q21y {rid:Nat} {ops:Array Oper} {o1 o2:Oper} {src t1 t2:Nat} {ty e yt:TypeId} {τ:Row} {xs:List (den τ)} (hops:ops.toList=[o1,o2]) (g1:o1.guard=none) (p1:o1.op=.move (.tmp src)) (d1:o1.dst=some t1) (g2:o2.guard=none)
    (p2:o2.op=.binOp .eql ty (.tmp t1) (.const (.slice none 0 0)) yt) (d2:o2.dst=some t2) (hn:(Nat.beq src t1 || Nat.beq src t2 || Nat.beq t1 t2)=false) (ht:(Nat.blt t1 N&&Nat.blt t2 N)=true) (hu:P.underlying ty=some (.slice e))
    (hk:∀ b,(b=true→xs=[])→Cn w0 φ0 N ⟨[(src,.fz τ xs),(t2,.bool b)],[]⟩ Q .normal):Run P w0 φ0 N (.region rid ops false) ⟨[(src,.fz τ xs)],[]⟩ Q:=by
  simp only [Bool.or_eq_false_iff] at hn
  have n1:=Nat.ne_of_beq_eq_false hn.1.1
  have n2:=Nat.ne_of_beq_eq_false hn.1.2
  simp only [Bool.and_eq_true,Nat.blt_eq] at ht
  intro a w hs
  obtain ⟨⟨η,h1,h2,h3⟩,h4,h5⟩:=hs
  obtain ⟨v,e1,e2⟩:=h2 src _ (List.mem_cons_self ..)
  have hv0:=e2
  cases e2 with
  | fz hf =>
    obtain ⟨A,c,rfl,hc,hA,_⟩:=hf
    have ea:a.eval (.tmp src)=.slice A xs.length c:=by
      show a.tmps.getD src undef=_
      rw [Array.getD_eq_getD_getElem?,e1];rfl
    refine wp_region_list ?_
    rw [hops]
    refine wpList_plain g1 fun K1 hK1=>?_
    unfold Oper.wp execOp
    simp only [p1,ea,Sem.run_pure,Oper.upon]
    refine hK1 _ _ (wpList_plain g2 fun K2 hK2=>?_)
    generalize hb:a.put o1.dst (.slice A xs.length c)=a1
    have eb:a1.eval (.tmp t1)=.slice A xs.length c:=by
      show a1.tmps.getD t1 undef=_
      rw [Array.getD_eq_getD_getElem?,← hb,q21u d1 (by omega)];rfl
    have ec:a1.eval (.const (.slice none 0 0))=.slice none 0 0:=rfl
    have hq:(eqGuard .eql ty (.tmp t1) (.const (.slice none 0 0)) (.slice A xs.length c) (.slice none 0 0)).run P w=.ok () w:=by simp [eqGuard]
    have hr:=Lib.run_eql_slice_nil (P:=P) w ty e A xs.length c 0 0 hu
    unfold Oper.wp execOp
    simp only [p2,eb,ec,Sem.run_bind,hq,Result.andThen_ok,hr,Sem.run_pure,Oper.upon]
    refine hK2 _ _ (hk A.isNone (fun hAn=>?_) _ w ⟨⟨η,h1,fun n l hl=>?_,h3⟩,by rw [q21v,← hb,q21v];exact h4,by rw [q21w,← hb,q21w];exact h5⟩)
    · cases A with
      | none=>have:=hA rfl;exact List.eq_nil_of_length_eq_zero (by omega)
      | some x=>cases hAn
    · rcases List.mem_cons.1 hl with hl | hl
      · injection hl with e3 e4
        rw [e3,e4]
        exact ⟨_,q21t d2 n2 (by rw [← hb];exact q21t d1 n1 e1),hv0⟩
      · rcases List.mem_cons.1 hl with hl | hl
        · injection hl with e3 e4
          rw [e3,e4]
          exact ⟨_,q21u d2 (by rw [← hb,q21v];omega),.bool _⟩
        · cases hl
end
end Go.Tx
