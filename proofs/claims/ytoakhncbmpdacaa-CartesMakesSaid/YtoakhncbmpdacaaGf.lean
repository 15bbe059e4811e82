/- Walks of the references; the orders agree; examples. -/
import Derived.Lib.SliceRun
import Derived.Test.YtoakhncbmpdacaaGe
set_option linter.unusedSimpArgs false
set_option linter.unusedVariables false
namespace Go.Proofs.Ytoakhncbmpdacaa
open Go Go.Tx Go.Proofs.Try
set_option maxRecDepth 100000
set_option maxHeartbeats 0
abbrev q1kp:List Pk:=[.row qkv true,.row Ri false]
abbrev q1kq:List Pk:=[]
abbrev q1kr:Type:=(qkw×Di×Unit)×(Unit)×List Di
abbrev q1ks:Type:=List Di
def q1kt (F:q1kr→Option q1ks):CSpec:=⟨78,q1kp,q1kq,Ri,fun a b c=>F (a,b,c)⟩
abbrev q1ku:Type:=(q1kr→Option q1ks)×Unit
def q1kv (d:Nat) (me:(q1kr→Option q1ks)):q1ku:=(me,())
def q1kw (C:q1ku):List Go.Tx.Spec:=[]
abbrev q1kx:Type:=Int×List Diii×Int×List Di
def q1ky (v:q1kx):St:=⟨[(0,.agg [i6 v.1,.fz Riii v.2.1]),(1,i6 v.2.2.1),(2,.rs 0)],[.rows Ri v.2.2.2]⟩
abbrev q1kz:Type:=Int×List Di×Int×List Diii
def q1l0 (v:q1kz):St:=⟨[(1,i6 v.1),(2,.rs 0),(3,.ptr 1 0)],[.rows Ri v.2.1,.cells [i6 v.2.2.1,.fz Riii v.2.2.2]]⟩
def q1l1 (C:q1ku) (v:q1kx):Dt q1kz:=(Dt.ret (v.2.2.1,v.2.2.2,v.1,v.2.1))
abbrev q34p {V Y:Type}:=@rg q1ku V Y tysT (fun C=>(orcC (q1kt C.1) (orc (q1kw C)))) 40
theorem q1l2 C v:q34p (regO (qea f78) 0) false [(1,.any),(2,(.own Ri)),(3,(.box [.any,.val Riii]))] q1ky q1l1 q1l0 C v:=rgI (by kernel_rfl)
abbrev q1l3:Type:=Int×Bool×List Di×Int×List Diii
def q1l4 (v:q1l3):St:=⟨[(1,i6 v.1),(2,.rs 0),(3,.ptr 1 0),(16,.bool v.2.1)],[.rows Ri v.2.2.1,.cells [i6 v.2.2.2.1,.fz Riii v.2.2.2.2]]⟩
def q1l5 (C:q1ku) (v:q1kz):Dt q1l3:=(Dt.ite (decide (v.1<(0:Int))) (Dt.ret (v.1,true,v.2.1,v.2.2.1,v.2.2.2)) (Dt.ret (v.1,(decide ((List.length v.2.1:Int) > (List.length v.2.2.2:Int))),v.2.1,v.2.2.1,v.2.2.2)))
theorem q1l6 C v:q34p (regO (qea f78) 1) false [(1,.any),(2,(.own Ri)),(3,(.box [.any,.val Riii])),(16,.any)] q1l0 q1l5 q1l4 C v:=rgI (by kernel_rfl)
abbrev q1l7:Type:=List Di
def q1l8 (v:q1l7):St:=⟨[(6,.rs 0)],[.rows Ri v]⟩
def q1l9 (C:q1ku) (v:q1l3):Dt q1l7:=(Dt.ret v.2.2.1)
theorem q1la C v:q34p (regO (qea f78) 2) false [(6,(.own Ri))] q1l4 q1l9 q1l8 C v:=rgI (by kernel_rfl)
def q1lb (C:q1ku) (v:q1l3):Dt q1kz:=(Dt.ite (inB v.1 (List.length v.2.2.2.2)) (Dt.bnd (C.1 (((v.2.2.2.1,v.2.2.2.2,()),((elt ziii v.2.2.2.2 (v.1).toNat).2.1,()),()),(()),v.2.2.1)) fun r1=>(Dt.ret (v.1,r1,v.2.2.2.1,v.2.2.2.2))) Dt.fail)
theorem q1lc C v:q34p (regO (qea f78) 3) true [(1,.any),(2,(.own Ri)),(3,(.box [.any,.val Riii]))] q1l4 q1lb q1l0 C v:=rgI (by kernel_rfl)
def q1ld (C:q1ku) (v:q1kz):Dt q1kz:=(Dt.ite (apB (List.length v.2.1) (List.length ([(v.1,())]:List Di))) (Dt.ret (v.1,(v.2.1++([(v.1,())]:List Di)),v.2.2.1,v.2.2.2)) Dt.fail)
theorem q1le C v:q34p (regO (qea f78) 4) false [(1,.any),(2,(.own Ri)),(3,(.box [.any,.val Riii]))] q1l0 q1ld q1l0 C v:=rgI (by kernel_rfl)
def q1lf (C:q1ku) (v:q1kz):Dt q1l7:=(Dt.ite (inB v.1 (List.length v.2.2.2)) (Dt.bnd (C.1 (((v.2.2.1,v.2.2.2,()),((elt ziii v.2.2.2 (v.1).toNat).2.2.1,()),()),(()),v.2.1)) fun r1=>(Dt.ret r1)) Dt.fail)
theorem q1lg C v:q34p (regO (qea f78) 5) true [(6,(.own Ri))] q1l0 q1lf q1l8 C v:=rgI (by kernel_rfl)
def q1lh (d:Nat) (me:(q1kr→Option q1ks)) (x:q1kr):Option q1ks :=
 (q1l1 (q1kv d me) (x.1.1.1,x.1.1.2.1,x.1.2.1.1,x.2.2)).eval fun y0 =>
 (q1l5 (q1kv d me) y0).eval fun y1 =>
 bif y1.2.1 then ((q1l9 (q1kv d me) y1).eval fun y2 =>
 some y2) else ((q1lb (q1kv d me) y1).eval fun y3 =>
 (q1ld (q1kv d me) y3).eval fun y4 =>
 (q1lf (q1kv d me) y4).eval fun y5 =>
 some y5)
theorem q1li (d:Nat) (me:(q1kr→Option q1ks)) (hme:COKC prog (q1kt me)):COKC prog (q1kt (q1lh d me)):=by
 have hm:prog.follows .mixedOrders=true:=mixed
 have hT:=tys
 have hC0:OrcOK prog (orc (q1kw (q1kv d me))):=qe4 (by
  intro S hS
  simp only [q1kw,List.mem_cons,List.not_mem_nil,or_false] at hS
  all_goals first | cases hS | exact hS.elim)
 have hC:OrcOK prog (orcC (q1kt (q1kv d me).1) (orc (q1kw (q1kv d me)))):=(q1km hme rfl hC0)
 refine q1ko (c:=qea f78) (fn:=f78) hT (by kernel_rfl) (by kernel_rfl) (by decide) fun x r h w0 φ0 Q hend=>?_
 replace h:q1lh d me x=some r:=h
 unfold q1lh at h
 show Run prog w0 φ0 40 (qea f78) ⟨[(0,.agg [.int .i64 x.1.1.1,.fz Riii x.1.1.2.1]),(1,.int .i64 x.1.2.1.1),(2,.rs 0)],[.rows Ri x.2.2]⟩ Q
 refine q344 hm hT hC (q1l2 (q1kv d me) (x.1.1.1,x.1.1.2.1,x.1.2.1.1,x.2.2)) h fun y0 h=>?_
 refine q9d ?_
 refine q344 hm hT hC (q1l6 (q1kv d me) y0) h fun y1 h=>?_
 refine q9h (v:=y1.2.1) (by kernel_rfl) h ?_ ?_
 ·
  intro h
  refine q344 hm hT hC (q1la (q1kv d me) y1) h fun y2 h=>?_
  refine q9c (q91 ?_)
  cases h
  exact (hend _ (by kernel_rfl)).2
 ·
  intro h
  refine q99 (q8z ?_)
  refine q344 hm hT hC (q1lc (q1kv d me) y1) h fun y3 h=>?_
  refine q344 hm hT hC (q1le (q1kv d me) y3) h fun y4 h=>?_
  refine q344 hm hT hC (q1lg (q1kv d me) y4) h fun y5 h=>?_
  refine q9c ?_
  cases h
  exact (hend _ (by kernel_rfl)).2
def q1lj (d:Nat):Nat→q1kr→Option q1ks
 | 0,_=>none
 | k+1,x=>q1lh d (q1lj d k) x
def q1lk (d:Nat) (x:q1kr):Option q1ks:=q1lj d d x
theorem q1ll (d:Nat):COKC prog (q1kt (q1lk d)):=by
 have key:∀ k,COKC prog (q1kt (q1lj d k)):=fun k=>by
  induction k with
  | zero=>exact ⟨fun x1 x2 xs ys h=>(by cases (show (none:Option q1ks)=some ys from h)),⟨f78,qea f78,by kernel_rfl,by kernel_rfl,by decide⟩⟩
  | succ k ih=>exact q1li d _ ih
 exact key d
abbrev q1lm:List Pk:=[.row qkv true]
abbrev q1ln:Type:=qkw×Unit
abbrev q1lo:Type:=Bool
def q1lp (r:q1lo):LV×List Ob:=(.bool r,[])
def q1lq (F:q1ln→Option q1lo):Go.Tx.Spec:=⟨58,q1lm,q1lo,F,q1lp⟩
abbrev q1lr:Type:=(q1kr→Option q1ks)×Unit
def q1ls (d:Nat):q1lr:=(q1lk d,())
def q1lt (C:q1lr):List Go.Tx.Spec:=[]
abbrev q1lu:Type:=Int×List Diii
def q1lv (v:q1lu):St:=⟨[(0,.agg [i6 v.1,.fz Riii v.2])],[]⟩
abbrev q1lw:Type:=Int×List Diii
def q1lx (v:q1lw):St:=⟨[(1,.ptr 0 0)],[.cells [i6 v.1,.fz Riii v.2]]⟩
def q1ly (C:q1lr) (v:q1lu):Dt q1lw:=(Dt.ret (v.1,v.2))
abbrev q34q {V Y:Type}:=@rg q1lr V Y tysT (fun C=>(orcC (q1kt C.1) (orc (q1lt C)))) 12
theorem q1lz C v:q34q (regO (qea f58) 0) false [(1,(.box [.any,.val Riii]))] q1lv q1ly q1lx C v:=rgI (by kernel_rfl)
abbrev q1m0:Type:=Bool
def q1m1 (v:q1m0):St:=⟨[(2,.bool v)],[]⟩
def q1m2 (C:q1lr) (v:q1lw):Dt q1m0:=(Dt.bnd (C.1 (((v.1,v.2,()),(v.1,()),()),(()),([]:List Di))) fun r1=>(Dt.ret ((List.length r1:Int) == (List.length v.2:Int))))
theorem q1m3 C v:q34q (regO (qea f58) 1) true [(2,.any)] q1lx q1m2 q1m1 C v:=rgI (by kernel_rfl)
def q1m4 (d:Nat) (x:q1ln):Option q1lo :=
 (q1ly (q1ls d) (x.1.1,x.1.2.1)).eval fun y0 =>
 (q1m2 (q1ls d) y0).eval fun y1 =>
 some y1
theorem q1m5 (d:Nat):COK prog (q1lq (q1m4 d)):=by
 have hm:prog.follows .mixedOrders=true:=mixed
 have hT:=tys
 have hC0:OrcOK prog (orc (q1lt (q1ls d))):=qe4 (by
  intro S hS
  simp only [q1lt,List.mem_cons,List.not_mem_nil,or_false] at hS
  all_goals first | cases hS | exact hS.elim)
 have hC:OrcOK prog (orcC (q1kt (q1ls d).1) (orc (q1lt (q1ls d)))):=(q1km (q1ll d) rfl hC0)
 refine q9t (c:=qea f58) (fn:=f58) hT (by kernel_rfl) (by kernel_rfl) (by decide) fun x r h w0 φ0 Q hend=>?_
 replace h:q1m4 d x=some r:=h
 unfold q1m4 at h
 show Run prog w0 φ0 12 (qea f58) ⟨[(0,.agg [.int .i64 x.1.1,.fz Riii x.1.2.1])],[]⟩ Q
 refine q344 hm hT hC (q1lz (q1ls d) (x.1.1,x.1.2.1)) h fun y0 h=>?_
 refine q344 hm hT hC (q1m3 (q1ls d) y0) h fun y1 h=>?_
 refine q9c ?_
 cases h
 exact (hend _ (by kernel_rfl)).2
abbrev q1m6:List Pk:=[.row qkv true]
abbrev q1m7:Type:=qkw×Unit
abbrev q1m8:Type:=List Di
def q1m9 (r:q1m8):LV×List Ob:=(.rs 0,[.rows Ri r])
def q1ma (F:q1m7→Option q1m8):Go.Tx.Spec:=⟨59,q1m6,q1m8,F,q1m9⟩
abbrev q1mb:Type:=(q1kr→Option q1ks)×Unit
def q1mc (d:Nat):q1mb:=(q1lk d,())
def q1md (C:q1mb):List Go.Tx.Spec:=[]
abbrev q1me:Type:=Int×List Diii
def q1mf (v:q1me):St:=⟨[(0,.agg [i6 v.1,.fz Riii v.2])],[]⟩
abbrev q1mg:Type:=Int×List Diii
def q1mh (v:q1mg):St:=⟨[(1,.ptr 0 0)],[.cells [i6 v.1,.fz Riii v.2]]⟩
def q1mi (C:q1mb) (v:q1me):Dt q1mg:=(Dt.ret (v.1,v.2))
abbrev q34r {V Y:Type}:=@rg q1mb V Y tysT (fun C=>(orcC (q1kt C.1) (orc (q1md C)))) 7
theorem q1mj C v:q34r (regO (qea f59) 0) false [(1,(.box [.any,.val Riii]))] q1mf q1mi q1mh C v:=rgI (by kernel_rfl)
abbrev q1mk:Type:=List Di
def q1ml (v:q1mk):St:=⟨[(2,.rs 0)],[.rows Ri v]⟩
def q1mm (C:q1mb) (v:q1mg):Dt q1mk:=(Dt.bnd (C.1 (((v.1,v.2,()),(v.1,()),()),(()),([]:List Di))) fun r1=>(Dt.ret r1))
theorem q1mn C v:q34r (regO (qea f59) 1) false [(2,(.own Ri))] q1mh q1mm q1ml C v:=rgI (by kernel_rfl)
def q1mo (d:Nat) (x:q1m7):Option q1m8 :=
 (q1mi (q1mc d) (x.1.1,x.1.2.1)).eval fun y0 =>
 (q1mm (q1mc d) y0).eval fun y1 =>
 some y1
theorem q1mp (d:Nat):COK prog (q1ma (q1mo d)):=by
 have hm:prog.follows .mixedOrders=true:=mixed
 have hT:=tys
 have hC0:OrcOK prog (orc (q1md (q1mc d))):=qe4 (by
  intro S hS
  simp only [q1md,List.mem_cons,List.not_mem_nil,or_false] at hS
  all_goals first | cases hS | exact hS.elim)
 have hC:OrcOK prog (orcC (q1kt (q1mc d).1) (orc (q1md (q1mc d)))):=(q1km (q1ll d) rfl hC0)
 refine q9t (c:=qea f59) (fn:=f59) hT (by kernel_rfl) (by kernel_rfl) (by decide) fun x r h w0 φ0 Q hend=>?_
 replace h:q1mo d x=some r:=h
 unfold q1mo at h
 show Run prog w0 φ0 7 (qea f59) ⟨[(0,.agg [.int .i64 x.1.1,.fz Riii x.1.2.1])],[]⟩ Q
 refine q344 hm hT hC (q1mj (q1mc d) (x.1.1,x.1.2.1)) h fun y0 h=>?_
 refine q344 hm hT hC (q1mn (q1mc d) y0) h fun y1 h=>?_
 refine q9c ?_
 cases h
 exact (hend _ (by kernel_rfl)).2
abbrev q1mq:List Pk:=[.row qkv true]
abbrev q1mr:Type:=qkw×Unit
abbrev q1ms:Type:=Int
def q1mt (r:q1ms):LV×List Ob:=(.int .i64 r,[])
def q1mu (F:q1mr→Option q1ms):Go.Tx.Spec:=⟨25,q1mq,q1ms,F,q1mt⟩
abbrev q1mv:Type:=(q1d1→Option q1d2)×(q1dl→Option q1dm)×(q1ln→Option q1lo)×(q1m7→Option q1m8)×Unit
def q1mw (d:Nat):q1mv:=(q1di d,q1fk d,q1m4 d,q1mo d,())
def q1mx (C:q1mv):List Go.Tx.Spec:=[q1d4 C.1,q1do C.2.1,q1lq C.2.2.1,q1ma C.2.2.2.1]
abbrev q1my:Type:=Int×List Diii
def q1mz (v:q1my):St:=⟨[(0,.agg [i6 v.1,.fz Riii v.2])],[]⟩
abbrev q1n0:Type:=Int×List Diii
def q1n1 (v:q1n0):St:=⟨[(1,.ptr 0 0)],[.cells [i6 v.1,.fz Riii v.2]]⟩
def q1n2 (C:q1mv) (v:q1my):Dt q1n0:=(Dt.ret (v.1,v.2))
abbrev q34s {V Y:Type}:=@rg q1mv V Y tysT (fun C=>(orc (q1mx C))) 96
theorem q1n3 C v:q34s (regO (qea f25) 0) false [(1,(.box [.any,.val Riii]))] q1mz q1n2 q1n1 C v:=rgI (by kernel_rfl)
abbrev q1n4:Type:=Bool×Int×List Diii
def q1n5 (v:q1n4):St:=⟨[(1,.ptr 0 0),(10,.bool v.1)],[.cells [i6 v.2.1,.fz Riii v.2.2]]⟩
def q1n6 (C:q1mv) (v:q1n0):Dt q1n4:=(Dt.ret ((decide ((List.length v.2:Int) > (64:Int))),v.1,v.2))
theorem q1n7 C v:q34s (regO (qea f25) 1) false [(1,(.box [.any,.val Riii])),(10,.any)] q1n1 q1n6 q1n5 C v:=rgI (by kernel_rfl)
abbrev q1n8:Type:=Int
def q1n9 (v:q1n8):St:=⟨[(2,i6 v)],[]⟩
def q1na (C:q1mv) (v:q1n4):Dt q1n8:=(Dt.ret (4:Int))
theorem q1nb C v:q34s (regO (qea f25) 2) false [(2,.any)] q1n5 q1na q1n9 C v:=rgI (by kernel_rfl)
abbrev q1nc:Type:=Bool×Int×List Diii
def q1nd (v:q1nc):St:=⟨[(1,.ptr 0 0),(25,.bool v.1)],[.cells [i6 v.2.1,.fz Riii v.2.2]]⟩
def q1ne (C:q1mv) (v:q1n4):Dt q1nc:=(Dt.bnd (C.1 ((v.2.1,v.2.2,()),(v.2.1,()),())) fun r1=>(Dt.ite (!r1) (Dt.ret (true,v.2.1,v.2.2)) (Dt.ret ((!((v.2.1 == (-1:Int)) == ((List.length v.2.2:Int) == (0:Int)))),v.2.1,v.2.2))))
theorem q1nf C v:q34s (regO (qea f25) 3) false [(1,(.box [.any,.val Riii])),(25,.any)] q1n5 q1ne q1nd C v:=rgI (by kernel_rfl)
def q1ng (C:q1mv) (v:q1nc):Dt q1n8:=(Dt.ret (8:Int))
theorem q1nh C v:q34s (regO (qea f25) 4) false [(2,.any)] q1nd q1ng q1n9 C v:=rgI (by kernel_rfl)
abbrev q1ni:Type:=Int×Int×List Diii
def q1nj (v:q1ni):St:=⟨[(1,.ptr 0 0),(3,i6 v.1)],[.cells [i6 v.2.1,.fz Riii v.2.2]]⟩
def q1nk (C:q1mv) (v:q1nc):Dt q1ni:=(Dt.ret ((0:Int),v.2.1,v.2.2))
theorem q1nl C v:q34s (regO (qea f25) 5) false [(1,(.box [.any,.val Riii])),(3,.any)] q1nd q1nk q1nj C v:=rgI (by kernel_rfl)
abbrev q1nm:Type:=Int×Bool×Int×List Diii
def q1nn (v:q1nm):St:=⟨[(1,.ptr 0 0),(3,i6 v.1),(30,.bool v.2.1)],[.cells [i6 v.2.2.1,.fz Riii v.2.2.2]]⟩
def q1no (C:q1mv) (v:q1ni):Dt q1nm:=(Dt.ret (v.1,(decide (v.1<(List.length v.2.2:Int))),v.2.1,v.2.2))
theorem q1np C v:q34s (regO (qea f25) 6) false [(1,(.box [.any,.val Riii])),(3,.any),(30,.any)] q1nj q1no q1nn C v:=rgI (by kernel_rfl)
abbrev q1nq:Type:=Int×Int×List Diii×Int×Int×Int
def q1nr (v:q1nq):St:=⟨[(1,.ptr 0 0),(3,i6 v.1),(4,.ptr 1 0)],[.cells [i6 v.2.1,.fz Riii v.2.2.1],.cells [i6 v.2.2.2.1,i6 v.2.2.2.2.1,i6 v.2.2.2.2.2]]⟩
def q1ns (C:q1mv) (v:q1nm):Dt q1nq:=(Dt.ite (inB v.1 (List.length v.2.2.2)) (Dt.ret (v.1,v.2.2.1,v.2.2.2,(elt ziii v.2.2.2 (v.1).toNat).1,(elt ziii v.2.2.2 (v.1).toNat).2.1,(elt ziii v.2.2.2 (v.1).toNat).2.2.1)) Dt.fail)
theorem q1nt C v:q34s (regO (qea f25) 8) false [(1,(.box [.any,.val Riii])),(3,.any),(4,.any)] q1nn q1ns q1nr C v:=rgI (by kernel_rfl)
abbrev q1nu:Type:=Int×Bool×Int×List Diii
def q1nv (v:q1nu):St:=⟨[(1,.ptr 0 0),(3,i6 v.1),(59,.bool v.2.1)],[.cells [i6 v.2.2.1,.fz Riii v.2.2.2]]⟩
def q1nw (C:q1mv) (v:q1nq):Dt q1nu:=(Dt.bnd (C.1 ((v.2.1,v.2.2.1,()),(v.2.2.2.2.1,()),())) fun r1=>(Dt.ite (!r1) (Dt.ret (v.1,true,v.2.1,v.2.2.1)) (Dt.bnd (C.1 ((v.2.1,v.2.2.1,()),(v.2.2.2.2.2,()),())) fun r2=>(Dt.ite (!r2) (Dt.ret (v.1,true,v.2.1,v.2.2.1)) (Dt.ite (decide (v.2.2.2.1<(0:Int))) (Dt.ret (v.1,true,v.2.1,v.2.2.1)) (Dt.ret (v.1,(decide (v.2.2.2.1 > (65535:Int))),v.2.1,v.2.2.1)))))))
theorem q1nx C v:q34s (regO (qea f25) 9) false [(1,(.box [.any,.val Riii])),(3,.any),(59,.any)] q1nr q1nw q1nv C v:=rgI (by kernel_rfl)
def q1ny (C:q1mv) (v:q1nu):Dt q1n8:=(Dt.ret (8:Int))
theorem q1nz C v:q34s (regO (qea f25) 10) false [(2,.any)] q1nv q1ny q1n9 C v:=rgI (by kernel_rfl)
def q1o0 (C:q1mv) (v:q1nu):Dt q1ni:=(Dt.ret ((IntKind.wrap .i64 (v.1+(1:Int))),v.2.2.1,v.2.2.2))
theorem q1o1 C v:q34s (regO (qea f25) 7) false [(1,(.box [.any,.val Riii])),(3,.any)] q1nv q1o0 q1nj C v:=rgI (by kernel_rfl)
abbrev q1o2:Type:=Bool×Int×List Diii
def q1o3 (v:q1o2):St:=⟨[(1,.ptr 0 0),(67,.bool v.1)],[.cells [i6 v.2.1,.fz Riii v.2.2]]⟩
def q1o4 (C:q1mv) (v:q1nm):Dt q1o2:=(Dt.bnd (C.2.1 ((v.2.2.1,v.2.2.2,()),())) fun r1=>(Dt.ite (!r1) (Dt.ret (true,v.2.2.1,v.2.2.2)) (Dt.bnd (C.2.2.1 ((v.2.2.1,v.2.2.2,()),())) fun r2=>(Dt.ret ((!r2),v.2.2.1,v.2.2.2)))))
theorem q1o5 C v:q34s (regO (qea f25) 11) false [(1,(.box [.any,.val Riii])),(67,.any)] q1nn q1o4 q1o3 C v:=rgI (by kernel_rfl)
def q1o6 (C:q1mv) (v:q1o2):Dt q1n8:=(Dt.ret (8:Int))
theorem q1o7 C v:q34s (regO (qea f25) 12) false [(2,.any)] q1o3 q1o6 q1n9 C v:=rgI (by kernel_rfl)
abbrev q1o8:Type:=Int×List Diii×List Di
def q1o9 (v:q1o8):St:=⟨[(1,.ptr 0 0),(5,.rs 1)],[.cells [i6 v.1,.fz Riii v.2.1],.rows Ri v.2.2]⟩
def q1oa (C:q1mv) (v:q1o2):Dt q1o8:=(Dt.bnd (C.2.2.2.1 ((v.2.1,v.2.2,()),())) fun r1=>(Dt.ret (v.2.1,v.2.2,r1)))
theorem q1ob C v:q34s (regO (qea f25) 13) false [(1,(.box [.any,.val Riii])),(5,(.own Ri))] q1o3 q1oa q1o9 C v:=rgI (by kernel_rfl)
abbrev q1oc:Type:=Int×Int×List Diii×List Di
def q1od (v:q1oc):St:=⟨[(1,.ptr 0 0),(5,.rs 1),(6,i6 v.1)],[.cells [i6 v.2.1,.fz Riii v.2.2.1],.rows Ri v.2.2.2]⟩
def q1oe (C:q1mv) (v:q1o8):Dt q1oc:=(Dt.ret ((1:Int),v.1,v.2.1,v.2.2))
theorem q1of C v:q34s (regO (qea f25) 14) false [(1,(.box [.any,.val Riii])),(5,(.own Ri)),(6,.any)] q1o9 q1oe q1od C v:=rgI (by kernel_rfl)
abbrev q1og:Type:=Int×Bool×Int×List Diii×List Di
def q1oh (v:q1og):St:=⟨[(1,.ptr 0 0),(5,.rs 1),(6,i6 v.1),(73,.bool v.2.1)],[.cells [i6 v.2.2.1,.fz Riii v.2.2.2.1],.rows Ri v.2.2.2.2]⟩
def q1oi (C:q1mv) (v:q1oc):Dt q1og:=(Dt.ret (v.1,(decide (v.1<(List.length v.2.2.2:Int))),v.2.1,v.2.2.1,v.2.2.2))
theorem q1oj C v:q34s (regO (qea f25) 15) false [(1,(.box [.any,.val Riii])),(5,(.own Ri)),(6,.any),(73,.any)] q1od q1oi q1oh C v:=rgI (by kernel_rfl)
abbrev q1ok:Type:=Int×Bool×Int×List Diii×List Di
def q1ol (v:q1ok):St:=⟨[(1,.ptr 0 0),(5,.rs 1),(6,i6 v.1),(95,.bool v.2.1)],[.cells [i6 v.2.2.1,.fz Riii v.2.2.2.1],.rows Ri v.2.2.2.2]⟩
def q1om (C:q1mv) (v:q1og):Dt q1ok:=(Dt.ite (inB (IntKind.wrap .i64 (v.1 - (1:Int))) (List.length v.2.2.2.2)) (Dt.ite (inB (elt zi v.2.2.2.2 ((IntKind.wrap .i64 (v.1 - (1:Int)))).toNat).1 (List.length v.2.2.2.1)) (Dt.ite (inB v.1 (List.length v.2.2.2.2)) (Dt.ite (inB (elt zi v.2.2.2.2 (v.1).toNat).1 (List.length v.2.2.2.1)) (Dt.ret (v.1,(decide ((elt ziii v.2.2.2.1 ((elt zi v.2.2.2.2 ((IntKind.wrap .i64 (v.1 - (1:Int)))).toNat).1).toNat).1≥(elt ziii v.2.2.2.1 ((elt zi v.2.2.2.2 (v.1).toNat).1).toNat).1)),v.2.2.1,v.2.2.2.1,v.2.2.2.2)) Dt.fail) Dt.fail) Dt.fail) Dt.fail)
theorem q1on C v:q34s (regO (qea f25) 17) true [(1,(.box [.any,.val Riii])),(5,(.own Ri)),(6,.any),(95,.any)] q1oh q1om q1ol C v:=rgI (by kernel_rfl)
def q1oo (C:q1mv) (v:q1ok):Dt q1n8:=(Dt.ret (8:Int))
theorem q1op C v:q34s (regO (qea f25) 18) false [(2,.any)] q1ol q1oo q1n9 C v:=rgI (by kernel_rfl)
def q1oq (C:q1mv) (v:q1ok):Dt q1oc:=(Dt.ret ((IntKind.wrap .i64 (v.1+(1:Int))),v.2.2.1,v.2.2.2.1,v.2.2.2.2))
theorem q1or C v:q34s (regO (qea f25) 16) false [(1,(.box [.any,.val Riii])),(5,(.own Ri)),(6,.any)] q1ol q1oq q1od C v:=rgI (by kernel_rfl)
def q1os (C:q1mv) (v:q1og):Dt q1n8:=(Dt.ret (0:Int))
theorem q1ot C v:q34s (regO (qea f25) 19) false [(2,.any)] q1oh q1os q1n9 C v:=rgI (by kernel_rfl)
def q1ou (d:Nat) (self2:(Int×Int×List Diii×List Di)→Option q1ms) (x2:Int×Int×List Diii×List Di):Option q1ms :=
 (q1oi (q1mw d) x2).eval fun y15 =>
 bif y15.2.1 then ((q1om (q1mw d) y15).eval fun y17 =>
 bif y17.2.1 then ((q1oo (q1mw d) y17).eval fun y18 =>
 some y18) else ((q1oq (q1mw d) y17).eval fun y16 =>
 self2 y16)) else ((q1os (q1mw d) y15).eval fun y19 =>
 some y19)
def q1ov (d:Nat) (self1:(Int×Int×List Diii)→Option q1ms) (x1:Int×Int×List Diii):Option q1ms :=
 (q1no (q1mw d) x1).eval fun y6 =>
 bif y6.2.1 then ((q1ns (q1mw d) y6).eval fun y8 =>
 (q1nw (q1mw d) y8).eval fun y9 =>
 bif y9.2.1 then ((q1ny (q1mw d) y9).eval fun y10 =>
 some y10) else ((q1o0 (q1mw d) y9).eval fun y7 =>
 self1 y7)) else ((q1o4 (q1mw d) y6).eval fun y11 =>
 bif y11.1 then ((q1o6 (q1mw d) y11).eval fun y12 =>
 some y12) else ((q1oa (q1mw d) y11).eval fun y13 =>
 (q1oe (q1mw d) y13).eval fun y14 =>
 iter (q1ou d ) d y14))
def q1ow (d:Nat) (x:q1mr):Option q1ms :=
 (q1n2 (q1mw d) (x.1.1,x.1.2.1)).eval fun y0 =>
 (q1n6 (q1mw d) y0).eval fun y1 =>
 bif y1.1 then ((q1na (q1mw d) y1).eval fun y2 =>
 some y2) else ((q1ne (q1mw d) y1).eval fun y3 =>
 bif y3.1 then ((q1ng (q1mw d) y3).eval fun y4 =>
 some y4) else ((q1nk (q1mw d) y3).eval fun y5 =>
 iter (q1ov d ) d y5))
theorem q1ox (d:Nat):COK prog (q1mu (q1ow d)):=by
 have hm:prog.follows .mixedOrders=true:=mixed
 have hT:=tys
 have hC0:OrcOK prog (orc (q1mx (q1mw d))):=qe4 (by
  intro S hS
  simp only [q1mx,List.mem_cons,List.not_mem_nil,or_false] at hS
  rcases hS with rfl | rfl | rfl | rfl
  · exact q1dj d
  · exact q1fl d
  · exact q1m5 d
  · exact q1mp d)
 have hC:OrcOK prog (orc (q1mx (q1mw d))):=hC0
 refine q9t (c:=qea f25) (fn:=f25) hT (by kernel_rfl) (by kernel_rfl) (by decide) fun x r h w0 φ0 Q hend=>?_
 replace h:q1ow d x=some r:=h
 unfold q1ow at h
 show Run prog w0 φ0 96 (qea f25) ⟨[(0,.agg [.int .i64 x.1.1,.fz Riii x.1.2.1])],[]⟩ Q
 refine q344 hm hT hC (q1n3 (q1mw d) (x.1.1,x.1.2.1)) h fun y0 h=>?_
 refine q9d ?_
 refine q344 hm hT hC (q1n7 (q1mw d) y0) h fun y1 h=>?_
 refine q9h (v:=y1.1) (by kernel_rfl) h ?_ ?_
 ·
  intro h
  refine q344 hm hT hC (q1nb (q1mw d) y1) h fun y2 h=>?_
  refine q9c (q91 ?_)
  cases h
  exact (hend _ (by kernel_rfl)).2
 ·
  intro h
  refine q99 (q8z (q9d ?_))
  refine q344 hm hT hC (q1nf (q1mw d) y1) h fun y3 h=>?_
  refine q9h (v:=y3.1) (by kernel_rfl) h ?_ ?_
  ·
   intro h
   refine q344 hm hT hC (q1nh (q1mw d) y3) h fun y4 h=>?_
   refine q9c (q91 ?_)
   cases h
   exact (hend _ (by kernel_rfl)).2
  ·
   intro h
   refine q99 (q8z (q9d ?_))
   refine q344 hm hT hC (q1nl (q1mw d) y3) h fun y5 h=>?_
   refine q9e ?_
   refine q9j (G:=iter (q1ov d )) (S:=(fun x1=>⟨[(1,.ptr 0 0),(3,i6 x1.1)],[.cells [i6 x1.2.1,.fz Riii x1.2.2]]⟩:Int×Int×List Diii→St)) (fun _=>rfl) ?_ d _ h
   intro n1 x1 h K1 hn1
   replace h:q1ov d  (iter (q1ov d ) n1) x1=some r:=h
   generalize iter (q1ov d ) n1=self1 at h hn1
   unfold q1ov at h
   refine q9d ?_
   refine q344 hm hT hC (q1np (q1mw d) x1) h fun y6 h=>?_
   refine q9h (v:=y6.2.1) (by kernel_rfl) h ?_ ?_
   ·
    intro h
    refine q99 (q8z (q9d (q9e ?_)))
    refine q344 hm hT hC (q1nt (q1mw d) y6) h fun y8 h=>?_
    refine q344 hm hT hC (q1nx (q1mw d) y8) h fun y9 h=>?_
    refine q9h (v:=y9.2.1) (by kernel_rfl) h ?_ ?_
    ·
     intro h
     refine q344 hm hT hC (q1nz (q1mw d) y9) h fun y10 h=>?_
     refine q9c (q93 (q91 (q91 (q93 (q91 ?_)))))
     cases h
     exact (hend _ (by kernel_rfl)).2
    ·
     intro h
     refine q99 (q92 (q8z ?_))
     refine q9i hm hT hC (q1o1 (q1mw d) y9) h ?_
     intro y7 h
     exact hn1 _ h
   ·
    intro h
    refine q9b (q90 (q90 (q94 (q8z (q9d ?_)))))
    refine q344 hm hT hC (q1o5 (q1mw d) y6) h fun y11 h=>?_
    refine q9h (v:=y11.1) (by kernel_rfl) h ?_ ?_
    ·
     intro h
     refine q344 hm hT hC (q1o7 (q1mw d) y11) h fun y12 h=>?_
     refine q9c (q91 ?_)
     cases h
     exact (hend _ (by kernel_rfl)).2
    ·
     intro h
     refine q99 (q8z ?_)
     refine q344 hm hT hC (q1ob (q1mw d) y11) h fun y13 h=>?_
     refine q9d ?_
     refine q344 hm hT hC (q1of (q1mw d) y13) h fun y14 h=>?_
     refine q9e ?_
     refine q9j (G:=iter (q1ou d )) (S:=(fun x2=>⟨[(1,.ptr 0 0),(5,.rs 1),(6,i6 x2.1)],[.cells [i6 x2.2.1,.fz Riii x2.2.2.1],.rows Ri x2.2.2.2]⟩:Int×Int×List Diii×List Di→St)) (fun _=>rfl) ?_ d _ h
     intro n2 x2 h K2 hn2
     replace h:q1ou d  (iter (q1ou d ) n2) x2=some r:=h
     generalize iter (q1ou d ) n2=self2 at h hn2
     unfold q1ou at h
     refine q9d ?_
     refine q344 hm hT hC (q1oj (q1mw d) x2) h fun y15 h=>?_
     refine q9h (v:=y15.2.1) (by kernel_rfl) h ?_ ?_
     ·
      intro h
      refine q99 (q8z (q9d (q9e ?_)))
      refine q344 hm hT hC (q1on (q1mw d) y15) h fun y17 h=>?_
      refine q9h (v:=y17.2.1) (by kernel_rfl) h ?_ ?_
      ·
       intro h
       refine q344 hm hT hC (q1op (q1mw d) y17) h fun y18 h=>?_
       refine q9c (q93 (q91 (q91 (q93 (q91 ?_)))))
       cases h
       exact (hend _ (by kernel_rfl)).2
      ·
       intro h
       refine q99 (q92 (q8z ?_))
       refine q9i hm hT hC (q1or (q1mw d) y17) h ?_
       intro y16 h
       exact hn2 _ h
     ·
      intro h
      refine q9b (q90 (q90 (q94 (q8z ?_))))
      refine q344 hm hT hC (q1ot (q1mw d) y15) h fun y19 h=>?_
      refine q9c ?_
      cases h
      exact (hend _ (by kernel_rfl)).2
abbrev q1oy:List Pk:=[.row qkv true]
abbrev q1oz:Type:=qkw×Unit
abbrev q1p0:Type:=List Di
def q1p1 (r:q1p0):LV×List Ob:=(.rs 0,[.rows Ri r])
def q1p2 (F:q1oz→Option q1p0):Go.Tx.Spec:=⟨50,q1oy,q1p0,F,q1p1⟩
abbrev q1p3:Type:=(q1m7→Option q1m8)×Unit
def q1p4 (d:Nat):q1p3:=(q1mo d,())
def q1p5 (C:q1p3):List Go.Tx.Spec:=[q1ma C.1]
abbrev q1p6:Type:=Int×List Diii
def q1p7 (v:q1p6):St:=⟨[(0,.agg [i6 v.1,.fz Riii v.2])],[]⟩
abbrev q1p8:Type:=Int×List Diii
def q1p9 (v:q1p8):St:=⟨[(1,.ptr 0 0)],[.cells [i6 v.1,.fz Riii v.2]]⟩
def q1pa (C:q1p3) (v:q1p6):Dt q1p8:=(Dt.ret (v.1,v.2))
abbrev q34t {V Y:Type}:=@rg q1p3 V Y tysT (fun C=>(orc (q1p5 C))) 27
theorem q1pb C v:q34t (regO (qea f50) 0) false [(1,(.box [.any,.val Riii]))] q1p7 q1pa q1p9 C v:=rgI (by kernel_rfl)
abbrev q1pc:Type:=Int×List Diii×List Di
def q1pd (v:q1pc):St:=⟨[(1,.ptr 0 0),(3,.rs 1)],[.cells [i6 v.1,.fz Riii v.2.1],.rows Ri v.2.2]⟩
def q1pe (C:q1p3) (v:q1p8):Dt q1pc:=(Dt.ret (v.1,v.2,([]:List Di)))
theorem q1pf C v:q34t (regO (qea f50) 1) false [(1,(.box [.any,.val Riii])),(3,(.own Ri))] q1p9 q1pe q1pd C v:=rgI (by kernel_rfl)
abbrev q1pg:Type:=Int×List Diii×List Di×List Di
def q1ph (v:q1pg):St:=⟨[(1,.ptr 0 0),(3,.rs 1),(4,.rs 2)],[.cells [i6 v.1,.fz Riii v.2.1],.rows Ri v.2.2.1,.rows Ri v.2.2.2]⟩
def q1pi (C:q1p3) (v:q1pc):Dt q1pg:=(Dt.bnd (C.1 ((v.1,v.2.1,()),())) fun r1=>(Dt.ret (v.1,v.2.1,v.2.2,r1)))
theorem q1pj C v:q34t (regO (qea f50) 2) false [(1,(.box [.any,.val Riii])),(3,(.own Ri)),(4,(.own Ri))] q1pd q1pi q1ph C v:=rgI (by kernel_rfl)
abbrev q1pk:Type:=Int×Int×List Diii×List Di×List Di
def q1pl (v:q1pk):St:=⟨[(1,.ptr 0 0),(3,.rs 1),(4,.rs 2),(5,i6 v.1)],[.cells [i6 v.2.1,.fz Riii v.2.2.1],.rows Ri v.2.2.2.1,.rows Ri v.2.2.2.2]⟩
def q1pm (C:q1p3) (v:q1pg):Dt q1pk:=(Dt.ret ((0:Int),v.1,v.2.1,v.2.2.1,v.2.2.2))
theorem q1pn C v:q34t (regO (qea f50) 3) false [(1,(.box [.any,.val Riii])),(3,(.own Ri)),(4,(.own Ri)),(5,.any)] q1ph q1pm q1pl C v:=rgI (by kernel_rfl)
abbrev q1po:Type:=Int×Bool×Int×List Diii×List Di×List Di
def q1pp (v:q1po):St:=⟨[(1,.ptr 0 0),(3,.rs 1),(4,.rs 2),(5,i6 v.1),(11,.bool v.2.1)],[.cells [i6 v.2.2.1,.fz Riii v.2.2.2.1],.rows Ri v.2.2.2.2.1,.rows Ri v.2.2.2.2.2]⟩
def q1pq (C:q1p3) (v:q1pk):Dt q1po:=(Dt.ret (v.1,(decide (v.1<(List.length v.2.2.2.2:Int))),v.2.1,v.2.2.1,v.2.2.2.1,v.2.2.2.2))
theorem q1pr C v:q34t (regO (qea f50) 4) false [(1,(.box [.any,.val Riii])),(3,(.own Ri)),(4,(.own Ri)),(5,.any),(11,.any)] q1pl q1pq q1pp C v:=rgI (by kernel_rfl)
def q1ps (C:q1p3) (v:q1po):Dt q1pk:=(Dt.ite (inB v.1 (List.length v.2.2.2.2.2)) (Dt.ite (inB (elt zi v.2.2.2.2.2 (v.1).toNat).1 (List.length v.2.2.2.1)) (Dt.ite (apB (List.length v.2.2.2.2.1) (List.length ([((elt ziii v.2.2.2.1 ((elt zi v.2.2.2.2.2 (v.1).toNat).1).toNat).1,())]:List Di))) (Dt.ret (v.1,v.2.2.1,v.2.2.2.1,(v.2.2.2.2.1++([((elt ziii v.2.2.2.1 ((elt zi v.2.2.2.2.2 (v.1).toNat).1).toNat).1,())]:List Di)),v.2.2.2.2.2)) Dt.fail) Dt.fail) Dt.fail)
theorem q1pt C v:q34t (regO (qea f50) 6) true [(1,(.box [.any,.val Riii])),(3,(.own Ri)),(4,(.own Ri)),(5,.any)] q1pp q1ps q1pl C v:=rgI (by kernel_rfl)
def q1pu (C:q1p3) (v:q1pk):Dt q1pk:=(Dt.ret ((IntKind.wrap .i64 (v.1+(1:Int))),v.2.1,v.2.2.1,v.2.2.2.1,v.2.2.2.2))
theorem q1pv C v:q34t (regO (qea f50) 5) false [(1,(.box [.any,.val Riii])),(3,(.own Ri)),(4,(.own Ri)),(5,.any)] q1pl q1pu q1pl C v:=rgI (by kernel_rfl)
abbrev q1pw:Type:=List Di
def q1px (v:q1pw):St:=⟨[(2,.rs 0)],[.rows Ri v]⟩
def q1py (C:q1p3) (v:q1po):Dt q1pw:=(Dt.ret v.2.2.2.2.1)
theorem q1pz C v:q34t (regO (qea f50) 7) false [(2,(.own Ri))] q1pp q1py q1px C v:=rgI (by kernel_rfl)
def q1q0 (d:Nat) (self1:(Int×Int×List Diii×List Di×List Di)→Option q1p0) (x1:Int×Int×List Diii×List Di×List Di):Option q1p0 :=
 (q1pq (q1p4 d) x1).eval fun y4 =>
 bif y4.2.1 then ((q1ps (q1p4 d) y4).eval fun y6 =>
 (q1pu (q1p4 d) y6).eval fun y5 =>
 self1 y5) else ((q1py (q1p4 d) y4).eval fun y7 =>
 some y7)
def q1q1 (d:Nat) (x:q1oz):Option q1p0 :=
 (q1pa (q1p4 d) (x.1.1,x.1.2.1)).eval fun y0 =>
 (q1pe (q1p4 d) y0).eval fun y1 =>
 (q1pi (q1p4 d) y1).eval fun y2 =>
 (q1pm (q1p4 d) y2).eval fun y3 =>
 iter (q1q0 d ) d y3
theorem q1q2 (d:Nat):COK prog (q1p2 (q1q1 d)):=by
 have hm:prog.follows .mixedOrders=true:=mixed
 have hT:=tys
 have hC0:OrcOK prog (orc (q1p5 (q1p4 d))):=qe4 (by
  intro S hS
  simp only [q1p5,List.mem_cons,List.not_mem_nil,or_false] at hS
  subst hS;exact q1mp d)
 have hC:OrcOK prog (orc (q1p5 (q1p4 d))):=hC0
 refine q9t (c:=qea f50) (fn:=f50) hT (by kernel_rfl) (by kernel_rfl) (by decide) fun x r h w0 φ0 Q hend=>?_
 replace h:q1q1 d x=some r:=h
 unfold q1q1 at h
 show Run prog w0 φ0 27 (qea f50) ⟨[(0,.agg [.int .i64 x.1.1,.fz Riii x.1.2.1])],[]⟩ Q
 refine q344 hm hT hC (q1pb (q1p4 d) (x.1.1,x.1.2.1)) h fun y0 h=>?_
 refine q344 hm hT hC (q1pf (q1p4 d) y0) h fun y1 h=>?_
 refine q344 hm hT hC (q1pj (q1p4 d) y1) h fun y2 h=>?_
 refine q9d ?_
 refine q344 hm hT hC (q1pn (q1p4 d) y2) h fun y3 h=>?_
 refine q9e ?_
 refine q9j (G:=iter (q1q0 d )) (S:=(fun x1=>⟨[(1,.ptr 0 0),(3,.rs 1),(4,.rs 2),(5,i6 x1.1)],[.cells [i6 x1.2.1,.fz Riii x1.2.2.1],.rows Ri x1.2.2.2.1,.rows Ri x1.2.2.2.2]⟩:Int×Int×List Diii×List Di×List Di→St)) (fun _=>rfl) ?_ d _ h
 intro n1 x1 h K1 hn1
 replace h:q1q0 d  (iter (q1q0 d ) n1) x1=some r:=h
 generalize iter (q1q0 d ) n1=self1 at h hn1
 unfold q1q0 at h
 refine q9d ?_
 refine q344 hm hT hC (q1pr (q1p4 d) x1) h fun y4 h=>?_
 refine q9h (v:=y4.2.1) (by kernel_rfl) h ?_ ?_
 ·
  intro h
  refine q99 (q8z (q9d (q9e ?_)))
  refine q9i hm hT hC (q1pt (q1p4 d) y4) h ?_
  intro y6 h
  refine q92 (q8z ?_)
  refine q9i hm hT hC (q1pv (q1p4 d) y6) h ?_
  intro y5 h
  exact hn1 _ h
 ·
  intro h
  refine q9b (q90 (q90 (q94 (q8z ?_))))
  refine q344 hm hT hC (q1pz (q1p4 d) y4) h fun y7 h=>?_
  refine q9c ?_
  cases h
  exact (hend _ (by kernel_rfl)).2
abbrev q1q3:List Pk:=[.row qkv true]
abbrev q1q4:Type:=qkw×Unit
abbrev q1q5:Type:=List Di×Int
def q1q6 (r:q1q5):LV×List Ob:=(.tup [.rs 0,.int .i64 r.2],[.rows Ri r.1])
def q1q7 (F:q1q4→Option q1q5):Go.Tx.Spec:=⟨16,q1q3,q1q5,F,q1q6⟩
abbrev q1q8:Type:=(q1mr→Option q1ms)×(q1oz→Option q1p0)×Unit
def q1q9 (d:Nat):q1q8:=(q1ow d,q1q1 d,())
def q1qa (C:q1q8):List Go.Tx.Spec:=[q1mu C.1,q1p2 C.2.1]
abbrev q1qb:Type:=Int×List Diii
def q1qc (v:q1qb):St:=⟨[(0,.agg [i6 v.1,.fz Riii v.2])],[]⟩
abbrev q1qd:Type:=Int×List Diii
def q1qe (v:q1qd):St:=⟨[(1,.ptr 0 0)],[.cells [i6 v.1,.fz Riii v.2]]⟩
def q1qf (C:q1q8) (v:q1qb):Dt q1qd:=(Dt.ret (v.1,v.2))
abbrev q34u {V Y:Type}:=@rg q1q8 V Y tysT (fun C=>(orc (q1qa C))) 12
theorem q1qg C v:q34u (regO (qea f16) 0) false [(1,(.box [.any,.val Riii]))] q1qc q1qf q1qe C v:=rgI (by kernel_rfl)
abbrev q1qh:Type:=Int×Int×List Diii
def q1qi (v:q1qh):St:=⟨[(1,.ptr 0 0),(4,i6 v.1)],[.cells [i6 v.2.1,.fz Riii v.2.2]]⟩
def q1qj (C:q1q8) (v:q1qd):Dt q1qh:=(Dt.bnd (C.1 ((v.1,v.2,()),())) fun r1=>(Dt.ret (r1,v.1,v.2)))
theorem q1qk C v:q34u (regO (qea f16) 1) false [(1,(.box [.any,.val Riii])),(4,.any)] q1qe q1qj q1qi C v:=rgI (by kernel_rfl)
abbrev q1ql:Type:=Int×Bool×Int×List Diii
def q1qm (v:q1ql):St:=⟨[(1,.ptr 0 0),(4,i6 v.1),(8,.bool v.2.1)],[.cells [i6 v.2.2.1,.fz Riii v.2.2.2]]⟩
def q1qn (C:q1q8) (v:q1qh):Dt q1ql:=(Dt.ret (v.1,(v.1 != (0:Int)),v.2.1,v.2.2))
theorem q1qo C v:q34u (regO (qea f16) 2) false [(1,(.box [.any,.val Riii])),(4,.any),(8,.any)] q1qi q1qn q1qm C v:=rgI (by kernel_rfl)
abbrev q1qp:Type:=Int×List Di
def q1qq (v:q1qp):St:=⟨[(2,.rs 0),(3,i6 v.1)],[.rows Ri v.2]⟩
def q1qr (C:q1q8) (v:q1ql):Dt q1qp:=(Dt.ret (v.1,([]:List Di)))
theorem q1qs C v:q34u (regO (qea f16) 3) false [(2,(.own Ri)),(3,.any)] q1qm q1qr q1qq C v:=rgI (by kernel_rfl)
def q1qt (C:q1q8) (v:q1ql):Dt q1qp:=(Dt.bnd (C.2.1 ((v.2.2.1,v.2.2.2,()),())) fun r1=>(Dt.ret ((0:Int),r1)))
theorem q1qu C v:q34u (regO (qea f16) 4) false [(2,(.own Ri)),(3,.any)] q1qm q1qt q1qq C v:=rgI (by kernel_rfl)
def q1qv (d:Nat) (x:q1q4):Option q1q5 :=
 (q1qf (q1q9 d) (x.1.1,x.1.2.1)).eval fun y0 =>
 (q1qj (q1q9 d) y0).eval fun y1 =>
 (q1qn (q1q9 d) y1).eval fun y2 =>
 bif y2.2.1 then ((q1qr (q1q9 d) y2).eval fun y3 =>
 some (y3.2,y3.1)) else ((q1qt (q1q9 d) y2).eval fun y4 =>
 some (y4.2,y4.1))
theorem q1qw (d:Nat):COK prog (q1q7 (q1qv d)):=by
 have hm:prog.follows .mixedOrders=true:=mixed
 have hT:=tys
 have hC0:OrcOK prog (orc (q1qa (q1q9 d))):=qe4 (by
  intro S hS
  simp only [q1qa,List.mem_cons,List.not_mem_nil,or_false] at hS
  rcases hS with rfl | rfl
  · exact q1ox d
  · exact q1q2 d)
 have hC:OrcOK prog (orc (q1qa (q1q9 d))):=hC0
 refine q9t (c:=qea f16) (fn:=f16) hT (by kernel_rfl) (by kernel_rfl) (by decide) fun x r h w0 φ0 Q hend=>?_
 replace h:q1qv d x=some r:=h
 unfold q1qv at h
 show Run prog w0 φ0 12 (qea f16) ⟨[(0,.agg [.int .i64 x.1.1,.fz Riii x.1.2.1])],[]⟩ Q
 refine q344 hm hT hC (q1qg (q1q9 d) (x.1.1,x.1.2.1)) h fun y0 h=>?_
 refine q9d ?_
 refine q344 hm hT hC (q1qk (q1q9 d) y0) h fun y1 h=>?_
 refine q344 hm hT hC (q1qo (q1q9 d) y1) h fun y2 h=>?_
 refine q9h (v:=y2.2.1) (by kernel_rfl) h ?_ ?_
 ·
  intro h
  refine q344 hm hT hC (q1qs (q1q9 d) y2) h fun y3 h=>?_
  refine q9c (q91 ?_)
  cases h
  exact (hend _ (by kernel_rfl)).2
 ·
  intro h
  refine q99 (q8z ?_)
  refine q344 hm hT hC (q1qu (q1q9 d) y2) h fun y4 h=>?_
  refine q9c ?_
  cases h
  exact (hend _ (by kernel_rfl)).2
abbrev q1qx:List Pk:=[.row qkv true,.row Ri false]
abbrev q1qy:Type:=qkw×Di×Unit
abbrev q1qz:Type:=Int×Int
def q1r0 (r:q1qz):LV×List Ob:=(.tup [.int .i64 r.1,.int .i64 r.2],[])
def q1r1 (F:q1qy→Option q1qz):Go.Tx.Spec:=⟨20,q1qx,q1qz,F,q1r0⟩
abbrev q1r2:Type:=(q1mr→Option q1ms)×(q1gt→Option q1gu)×(q1hu→Option q1hv)×Unit
def q1r3 (d:Nat):q1r2:=(q1ow d,q1hr d,q1iz d,())
def q1r4 (C:q1r2):List Go.Tx.Spec:=[q1mu C.1,q1gw C.2.1,q1hx C.2.2.1]
abbrev q1r5:Type:=Int×List Diii×Int
def q1r6 (v:q1r5):St:=⟨[(0,.agg [i6 v.1,.fz Riii v.2.1]),(1,i6 v.2.2)],[]⟩
abbrev q1r7:Type:=Int×Int×List Diii
def q1r8 (v:q1r7):St:=⟨[(1,i6 v.1),(2,.ptr 0 0)],[.cells [i6 v.2.1,.fz Riii v.2.2]]⟩
def q1r9 (C:q1r2) (v:q1r5):Dt q1r7:=(Dt.ret (v.2.2,v.1,v.2.1))
abbrev q34v {V Y:Type}:=@rg q1r2 V Y tysT (fun C=>(orc (q1r4 C))) 19
theorem q1ra C v:q34v (regO (qea f20) 0) false [(1,.any),(2,(.box [.any,.val Riii]))] q1r6 q1r9 q1r8 C v:=rgI (by kernel_rfl)
abbrev q1rb:Type:=Int×Int×Int×List Diii
def q1rc (v:q1rb):St:=⟨[(1,i6 v.1),(2,.ptr 0 0),(6,i6 v.2.1)],[.cells [i6 v.2.2.1,.fz Riii v.2.2.2]]⟩
def q1rd (C:q1r2) (v:q1r7):Dt q1rb:=(Dt.bnd (C.1 ((v.2.1,v.2.2,()),())) fun r1=>(Dt.ret (v.1,r1,v.2.1,v.2.2)))
theorem q1re C v:q34v (regO (qea f20) 1) false [(1,.any),(2,(.box [.any,.val Riii])),(6,.any)] q1r8 q1rd q1rc C v:=rgI (by kernel_rfl)
abbrev q1rf:Type:=Int×Int×Bool×Int×List Diii
def q1rg (v:q1rf):St:=⟨[(1,i6 v.1),(2,.ptr 0 0),(6,i6 v.2.1),(10,.bool v.2.2.1)],[.cells [i6 v.2.2.2.1,.fz Riii v.2.2.2.2]]⟩
def q1rh (C:q1r2) (v:q1rb):Dt q1rf:=(Dt.ret (v.1,v.2.1,(v.2.1 != (0:Int)),v.2.2.1,v.2.2.2))
theorem q1ri C v:q34v (regO (qea f20) 2) false [(1,.any),(2,(.box [.any,.val Riii])),(6,.any),(10,.any)] q1rc q1rh q1rg C v:=rgI (by kernel_rfl)
abbrev q1rj:Type:=Int×Int
def q1rk (v:q1rj):St:=⟨[(4,i6 v.1),(5,i6 v.2)],[]⟩
def q1rl (C:q1r2) (v:q1rf):Dt q1rj:=(Dt.ret ((0:Int),v.2.1))
theorem q1rm C v:q34v (regO (qea f20) 3) false (an [4,5]) q1rg q1rl q1rk C v:=rgI (by kernel_rfl)
abbrev q1rn:Type:=Int×Bool×Int×List Diii
def q1ro (v:q1rn):St:=⟨[(1,i6 v.1),(2,.ptr 0 0),(15,.bool v.2.1)],[.cells [i6 v.2.2.1,.fz Riii v.2.2.2]]⟩
def q1rp (C:q1r2) (v:q1rf):Dt q1rn:=(Dt.bnd (C.2.1 ((v.2.2.2.1,v.2.2.2.2,()),(v.1,()),())) fun r1=>(Dt.ret (v.1,(decide (r1<(0:Int))),v.2.2.2.1,v.2.2.2.2)))
theorem q1rq C v:q34v (regO (qea f20) 4) false [(1,.any),(2,(.box [.any,.val Riii])),(15,.any)] q1rg q1rp q1ro C v:=rgI (by kernel_rfl)
def q1rr (C:q1r2) (v:q1rn):Dt q1rj:=(Dt.ret ((0:Int),(6:Int)))
theorem q1rs C v:q34v (regO (qea f20) 5) false (an [4,5]) q1ro q1rr q1rk C v:=rgI (by kernel_rfl)
def q1rt (C:q1r2) (v:q1rn):Dt q1rj:=(Dt.bnd (C.2.2.1 ((v.2.2.1,v.2.2.2,()),(v.1,()),())) fun r1=>(Dt.ret (r1,(0:Int))))
theorem q1ru C v:q34v (regO (qea f20) 6) false (an [4,5]) q1ro q1rt q1rk C v:=rgI (by kernel_rfl)
def q1rv (d:Nat) (x:q1qy):Option q1qz :=
 (q1r9 (q1r3 d) (x.1.1,x.1.2.1,x.2.1.1)).eval fun y0 =>
 (q1rd (q1r3 d) y0).eval fun y1 =>
 (q1rh (q1r3 d) y1).eval fun y2 =>
 bif y2.2.2.1 then ((q1rl (q1r3 d) y2).eval fun y3 =>
 some y3) else ((q1rp (q1r3 d) y2).eval fun y4 =>
 bif y4.2.1 then ((q1rr (q1r3 d) y4).eval fun y5 =>
 some y5) else ((q1rt (q1r3 d) y4).eval fun y6 =>
 some y6))
theorem q1rw (d:Nat):COK prog (q1r1 (q1rv d)):=by
 have hm:prog.follows .mixedOrders=true:=mixed
 have hT:=tys
 have hC0:OrcOK prog (orc (q1r4 (q1r3 d))):=qe4 (by
  intro S hS
  simp only [q1r4,List.mem_cons,List.not_mem_nil,or_false] at hS
  rcases hS with rfl | rfl | rfl
  · exact q1ox d
  · exact q1hs d
  · exact q1j0 d)
 have hC:OrcOK prog (orc (q1r4 (q1r3 d))):=hC0
 refine q9t (c:=qea f20) (fn:=f20) hT (by kernel_rfl) (by kernel_rfl) (by decide) fun x r h w0 φ0 Q hend=>?_
 replace h:q1rv d x=some r:=h
 unfold q1rv at h
 show Run prog w0 φ0 19 (qea f20) ⟨[(0,.agg [.int .i64 x.1.1,.fz Riii x.1.2.1]),(1,.int .i64 x.2.1.1)],[]⟩ Q
 refine q344 hm hT hC (q1ra (q1r3 d) (x.1.1,x.1.2.1,x.2.1.1)) h fun y0 h=>?_
 refine q9d ?_
 refine q344 hm hT hC (q1re (q1r3 d) y0) h fun y1 h=>?_
 refine q344 hm hT hC (q1ri (q1r3 d) y1) h fun y2 h=>?_
 refine q9h (v:=y2.2.2.1) (by kernel_rfl) h ?_ ?_
 ·
  intro h
  refine q344 hm hT hC (q1rm (q1r3 d) y2) h fun y3 h=>?_
  refine q9c (q91 ?_)
  cases h
  exact (hend _ (by kernel_rfl)).2
 ·
  intro h
  refine q99 (q8z (q9d ?_))
  refine q344 hm hT hC (q1rq (q1r3 d) y2) h fun y4 h=>?_
  refine q9h (v:=y4.2.1) (by kernel_rfl) h ?_ ?_
  ·
   intro h
   refine q344 hm hT hC (q1rs (q1r3 d) y4) h fun y5 h=>?_
   refine q9c (q91 ?_)
   cases h
   exact (hend _ (by kernel_rfl)).2
  ·
   intro h
   refine q99 (q8z ?_)
   refine q344 hm hT hC (q1ru (q1r3 d) y4) h fun y6 h=>?_
   refine q9c ?_
   cases h
   exact (hend _ (by kernel_rfl)).2
abbrev q1rx:List Pk:=[.row qkv true,.row qkv true]
abbrev q1ry:Type:=qkw×qkw×Unit
abbrev q1rz:Type:=Bool×Int
def q1s0 (r:q1rz):LV×List Ob:=(.tup [.bool r.1,.int .i64 r.2],[])
def q1s1 (F:q1ry→Option q1rz):Go.Tx.Spec:=⟨22,q1rx,q1rz,F,q1s0⟩
abbrev q1s2:Type:=(q1mr→Option q1ms)×(q1jz→Option q1k0)×Unit
def q1s3 (d:Nat):q1s2:=(q1ow d,q1kg d,())
def q1s4 (C:q1s2):List Go.Tx.Spec:=[q1mu C.1,q1k2 C.2.1]
abbrev q1s5:Type:=Int×List Diii×Int×List Diii
def q1s6 (v:q1s5):St:=⟨[(0,.agg [i6 v.1,.fz Riii v.2.1]),(1,.agg [i6 v.2.2.1,.fz Riii v.2.2.2])],[]⟩
abbrev q1s7:Type:=Int×List Diii×Int×List Diii
def q1s8 (v:q1s7):St:=⟨[(2,.ptr 0 0),(3,.ptr 1 0)],[.cells [i6 v.1,.fz Riii v.2.1],.cells [i6 v.2.2.1,.fz Riii v.2.2.2]]⟩
def q1s9 (C:q1s2) (v:q1s5):Dt q1s7:=(Dt.ret (v.1,v.2.1,v.2.2.1,v.2.2.2))
abbrev q34w {V Y:Type}:=@rg q1s2 V Y tysT (fun C=>(orc (q1s4 C))) 21
theorem q1sa C v:q34w (regO (qea f22) 0) false [(2,(.box [.any,.val Riii])),(3,(.box [.any,.val Riii]))] q1s6 q1s9 q1s8 C v:=rgI (by kernel_rfl)
abbrev q1sb:Type:=Int×Int×List Diii×Int×List Diii
def q1sc (v:q1sb):St:=⟨[(2,.ptr 0 0),(3,.ptr 1 0),(6,i6 v.1)],[.cells [i6 v.2.1,.fz Riii v.2.2.1],.cells [i6 v.2.2.2.1,.fz Riii v.2.2.2.2]]⟩
def q1sd (C:q1s2) (v:q1s7):Dt q1sb:=(Dt.bnd (C.1 ((v.1,v.2.1,()),())) fun r1=>(Dt.ret (r1,v.1,v.2.1,v.2.2.1,v.2.2.2)))
theorem q1se C v:q34w (regO (qea f22) 1) false [(2,(.box [.any,.val Riii])),(3,(.box [.any,.val Riii])),(6,.any)] q1s8 q1sd q1sc C v:=rgI (by kernel_rfl)
abbrev q1sf:Type:=Int×Bool×Int×List Diii×Int×List Diii
def q1sg (v:q1sf):St:=⟨[(2,.ptr 0 0),(3,.ptr 1 0),(6,i6 v.1),(11,.bool v.2.1)],[.cells [i6 v.2.2.1,.fz Riii v.2.2.2.1],.cells [i6 v.2.2.2.2.1,.fz Riii v.2.2.2.2.2]]⟩
def q1sh (C:q1s2) (v:q1sb):Dt q1sf:=(Dt.ret (v.1,(v.1 != (0:Int)),v.2.1,v.2.2.1,v.2.2.2.1,v.2.2.2.2))
theorem q1si C v:q34w (regO (qea f22) 2) false [(2,(.box [.any,.val Riii])),(3,(.box [.any,.val Riii])),(6,.any),(11,.any)] q1sc q1sh q1sg C v:=rgI (by kernel_rfl)
abbrev q1sj:Type:=Bool×Int
def q1sk (v:q1sj):St:=⟨[(4,.bool v.1),(5,i6 v.2)],[]⟩
def q1sl (C:q1s2) (v:q1sf):Dt q1sj:=(Dt.ret (false,v.1))
theorem q1sm C v:q34w (regO (qea f22) 3) false (an [4,5]) q1sg q1sl q1sk C v:=rgI (by kernel_rfl)
abbrev q1sn:Type:=Int×Int×List Diii×Int×List Diii
def q1so (v:q1sn):St:=⟨[(2,.ptr 0 0),(3,.ptr 1 0),(7,i6 v.1)],[.cells [i6 v.2.1,.fz Riii v.2.2.1],.cells [i6 v.2.2.2.1,.fz Riii v.2.2.2.2]]⟩
def q1sp (C:q1s2) (v:q1sf):Dt q1sn:=(Dt.bnd (C.1 ((v.2.2.2.2.1,v.2.2.2.2.2,()),())) fun r1=>(Dt.ret (r1,v.2.2.1,v.2.2.2.1,v.2.2.2.2.1,v.2.2.2.2.2)))
theorem q1sq C v:q34w (regO (qea f22) 4) false [(2,(.box [.any,.val Riii])),(3,(.box [.any,.val Riii])),(7,.any)] q1sg q1sp q1so C v:=rgI (by kernel_rfl)
abbrev q1sr:Type:=Int×Bool×Int×List Diii×Int×List Diii
def q1ss (v:q1sr):St:=⟨[(2,.ptr 0 0),(3,.ptr 1 0),(7,i6 v.1),(16,.bool v.2.1)],[.cells [i6 v.2.2.1,.fz Riii v.2.2.2.1],.cells [i6 v.2.2.2.2.1,.fz Riii v.2.2.2.2.2]]⟩
def q1st (C:q1s2) (v:q1sn):Dt q1sr:=(Dt.ret (v.1,(v.1 != (0:Int)),v.2.1,v.2.2.1,v.2.2.2.1,v.2.2.2.2))
theorem q1su C v:q34w (regO (qea f22) 5) false [(2,(.box [.any,.val Riii])),(3,(.box [.any,.val Riii])),(7,.any),(16,.any)] q1so q1st q1ss C v:=rgI (by kernel_rfl)
def q1sv (C:q1s2) (v:q1sr):Dt q1sj:=(Dt.ret (false,v.1))
theorem q1sw C v:q34w (regO (qea f22) 6) false (an [4,5]) q1ss q1sv q1sk C v:=rgI (by kernel_rfl)
def q1sx (C:q1s2) (v:q1sr):Dt q1sj:=(Dt.bnd (C.2.1 ((v.2.2.1,v.2.2.2.1,()),(v.2.2.2.2.1,v.2.2.2.2.2,()),())) fun r1=>(Dt.ret (r1,(0:Int))))
theorem q1sy C v:q34w (regO (qea f22) 7) false (an [4,5]) q1ss q1sx q1sk C v:=rgI (by kernel_rfl)
def q1sz (d:Nat) (x:q1ry):Option q1rz :=
 (q1s9 (q1s3 d) (x.1.1,x.1.2.1,x.2.1.1,x.2.1.2.1)).eval fun y0 =>
 (q1sd (q1s3 d) y0).eval fun y1 =>
 (q1sh (q1s3 d) y1).eval fun y2 =>
 bif y2.2.1 then ((q1sl (q1s3 d) y2).eval fun y3 =>
 some y3) else ((q1sp (q1s3 d) y2).eval fun y4 =>
 (q1st (q1s3 d) y4).eval fun y5 =>
 bif y5.2.1 then ((q1sv (q1s3 d) y5).eval fun y6 =>
 some y6) else ((q1sx (q1s3 d) y5).eval fun y7 =>
 some y7))
theorem q1t0 (d:Nat):COK prog (q1s1 (q1sz d)):=by
 have hm:prog.follows .mixedOrders=true:=mixed
 have hT:=tys
 have hC0:OrcOK prog (orc (q1s4 (q1s3 d))):=qe4 (by
  intro S hS
  simp only [q1s4,List.mem_cons,List.not_mem_nil,or_false] at hS
  rcases hS with rfl | rfl
  · exact q1ox d
  · exact q1kh d)
 have hC:OrcOK prog (orc (q1s4 (q1s3 d))):=hC0
 refine q9t (c:=qea f22) (fn:=f22) hT (by kernel_rfl) (by kernel_rfl) (by decide) fun x r h w0 φ0 Q hend=>?_
 replace h:q1sz d x=some r:=h
 unfold q1sz at h
 show Run prog w0 φ0 21 (qea f22) ⟨[(0,.agg [.int .i64 x.1.1,.fz Riii x.1.2.1]),(1,.agg [.int .i64 x.2.1.1,.fz Riii x.2.1.2.1])],[]⟩ Q
 refine q344 hm hT hC (q1sa (q1s3 d) (x.1.1,x.1.2.1,x.2.1.1,x.2.1.2.1)) h fun y0 h=>?_
 refine q9d ?_
 refine q344 hm hT hC (q1se (q1s3 d) y0) h fun y1 h=>?_
 refine q344 hm hT hC (q1si (q1s3 d) y1) h fun y2 h=>?_
 refine q9h (v:=y2.2.1) (by kernel_rfl) h ?_ ?_
 ·
  intro h
  refine q344 hm hT hC (q1sm (q1s3 d) y2) h fun y3 h=>?_
  refine q9c (q91 ?_)
  cases h
  exact (hend _ (by kernel_rfl)).2
 ·
  intro h
  refine q99 (q8z (q9d ?_))
  refine q344 hm hT hC (q1sq (q1s3 d) y2) h fun y4 h=>?_
  refine q344 hm hT hC (q1su (q1s3 d) y4) h fun y5 h=>?_
  refine q9h (v:=y5.2.1) (by kernel_rfl) h ?_ ?_
  ·
   intro h
   refine q344 hm hT hC (q1sw (q1s3 d) y5) h fun y6 h=>?_
   refine q9c (q91 ?_)
   cases h
   exact (hend _ (by kernel_rfl)).2
  ·
   intro h
   refine q99 (q8z ?_)
   refine q344 hm hT hC (q1sy (q1s3 d) y5) h fun y7 h=>?_
   refine q9c ?_
   cases h
   exact (hend _ (by kernel_rfl)).2
end Go.Proofs.Ytoakhncbmpdacaa

namespace Go.Tx
open Go
def KT (V:Nat→Value→Prop) (a:Act):Prop:=∀ n v,V n v→a.tmps[n]?=some v
theorem q1t1 {V:Nat→Value→Prop} {a:Act} {dst:Option Tmp} (hd:∀ n v,V n v→dst≠some n) (h:KT V a) (v:Value):KT V (a.put dst v):=fun n u hu=>by
  cases dst with
  | none=>exact h n u hu
  | some d =>
    have hne:d≠n:=fun he=>hd n u hu (by rw [he])
    show (a.tmps.setIfInBounds d v)[n]?=some u
    rw [Array.getElem?_setIfInBounds_ne hne];exact h n u hu
def QK (V:Nat→Value→Prop) (Q:Exit→Act→World→Prop) (e:Exit) (a:Act) (w:World):Prop:=Q e a w∧(e=.normal→KT V a)
section
variable {P:Program} {V:Nat→Value→Prop} {Q:Exit→Act→World→Prop} {ops:Array Oper}
theorem q1t2 {o:Oper} {a:Act} {w:World} {K:Act→World→Prop} (hd:∀ n v,V n v→o.dst≠some n) (ht:KT V a) (h:o.wp P a w K Q):o.wp P a w (fun a w=>K a w∧KT V a) (QK V Q):=by
  unfold Oper.wp at *
  generalize (execOp a.eval o).run P w=r at *
  cases r with
  | ok n w' =>
    cases n<;>simp only [Oper.upon] at h ⊢
    case value v=>exact ⟨h,q1t1 hd ht v⟩
    case skip=>exact ⟨h,q1t1 hd ht _⟩
    case defer d=>exact ⟨h,q1t1 (a:={ a with defers:=d :: a.defers }) hd ht _⟩
    case enter f args =>
      refine Calls.mono h fun e w'' he=>?_
      cases e with
      | returned v=>exact ⟨he,q1t1 hd ht v⟩
      | panicked c=>exact ⟨he,fun h=>by cases h⟩
      | outgrown=>obtain ⟨a2,w2,h2⟩:=he;exact ⟨a2,w2,h2,fun h=>by cases h⟩
    case row row args=>exact Rows.mono h fun v w'' he=>⟨he,q1t1 hd ht v⟩
  | halt x w' =>
    cases x<;>simp only [Oper.upon] at h ⊢
    exact ⟨h,fun h=>by cases h⟩
theorem q1t3:∀ (l:List Oper),(∀ o∈l,∀ n v,V n v→o.dst≠some n)→∀ (a:Act) (w:World),KT V a→wpList P ops Q l a w→wpList P ops (QK V Q) l a w
  | [],_,a,w,ht,h=>⟨h,fun _=>ht⟩
  | o :: l, hd, a, w, ht, h => by
    have ih:=q1t3 l fun o ho=>hd o (List.mem_cons_of_mem _ ho)
    have h0:=hd o (List.mem_cons_self ..)
    change (if Region.wanted o (yielded ops a.tmps) then _ else _)
    change (if Region.wanted o (yielded ops a.tmps) then _ else _) at h
    split
    · rename_i hw
      rw [if_pos hw] at h
      rcases h with h | h
      · exact .inl (Oper.wp_mono (fun a w hk=>ih a w hk.2 hk.1) (q1t2 h0 ht h))
      · obtain ⟨a2, w2, h3⟩ := h.2
        exact .inr ⟨h.1,a2,w2,h3,fun h=>by cases h⟩
    · rename_i hw
      rw [if_neg hw] at h
      exact ih _ _ (q1t1 h0 ht _) h
theorem q1t4 {md:Region.Mode} (hd:∀ (i:Nat) (o:Oper),ops[i]?=some o→∀ n v,V n v→o.dst≠some n):∀ (f:Nat) (li:Array Bool) (a:Act) (w:World),KT V a→wpAny P md ops Q f li a w→wpAny P md ops (QK V Q) f li a w:=by
  intro f
  induction f with
  | zero=>intro li a w ht h;exact ⟨h.1,h.2,fun _=>ht⟩
  | succ f ih =>
    intro li a w ht h
    refine ⟨fun hr=>⟨h.1 hr,fun _=>ht⟩,fun i hi=>?_⟩
    have h2:=h.2 i hi
    unfold wpOp at h2 ⊢
    cases ho:ops[i]? with
    | none=>rw [ho] at h2;exact ih _ _ _ ht h2
    | some o =>
      rw [ho] at h2
      simp only at h2 ⊢
      split
      · rename_i hw
        rw [if_pos hw] at h2
        rcases h2 with h2 | h2
        · exact .inl (Oper.wp_mono (fun a w hk=>ih _ a w hk.2 hk.1) (q1t2 (hd i o ho) ht h2))
        · obtain ⟨a2, w2, h3⟩ := h2.2
          exact .inr ⟨h2.1,a2,w2,h3,fun h=>by cases h⟩
      · rename_i hw
        rw [if_neg hw] at h2
        exact ih _ _ _ (q1t1 (hd i o ho) ht _) h2
def dstB (ns:List Nat) (ops:Array Oper):Bool:=ops.toList.all fun o=>match o.dst with | some d=>!memB ns d | none=>true
theorem q1t5 {ns:List Nat} (h:dstB ns ops=true) (hV:∀ n v,V n v→n∈ns) {o:Oper} (ho:o∈ops.toList):∀ n v,V n v→o.dst≠some n:=fun n v hn he=>by
  unfold dstB at h
  have h1:=List.all_eq_true.1 h o ho
  rw [he] at h1
  simp only at h1
  rw [q6f.2 (hV n v hn)] at h1
  cases h1
theorem q1t6 {draw:Bool} {a:Act} {w:World} {ns:List Nat} (hV:∀ n v,V n v→n∈ns) (hd:dstB ns ops=true) (ht:KT V a) (h:RW P ops draw Q a w):RW P ops draw (QK V Q) a w:=by
  cases draw with
  | true=>exact q1t4 (fun i o ho=>q1t5 hd hV (List.mem_of_getElem? (i:=i) (by rw [Array.getElem?_toList];exact ho))) _ _ _ _ ht h
  | false=>exact q1t3 _ (fun o ho=>q1t5 hd hV ho) _ _ ht h
end
section
variable {P:Program} {T:Tys} {C:Orc} {N:Nat} {V:Nat→Value→Prop} {w0:World} {φ0:Fz0} {Q:Exit→Act→World→Prop}
def RunK (P:Program) (V:Nat→Value→Prop) (w0:World) (φ0:Fz0) (N:Nat) (c:Code) (s:St) (Q:Exit→Act→World→Prop):Prop:=∀ a w,SS w0 φ0 N s a w→KT V a→c.wp P Q a w
def CnK (V:Nat→Value→Prop) (w0:World) (φ0:Fz0) (N:Nat) (s:St) (Q:Exit→Act→World→Prop) (e:Exit):Prop:=∀ a w,SS w0 φ0 N s a w→KT V a→Q e a w
theorem q1t7 {c:Code} {s:St} (h:RunK P V w0 φ0 N c s Q):CnK V w0 φ0 N s (Exit.then (c.wp P Q) Q) .normal:=h
theorem q1th {s:St} (h:CnK V w0 φ0 N s Q .normal):RunK P V w0 φ0 N .skip s Q:=fun a w hs hv=>wp_skip (h a w hs hv)
theorem q1tk {s:St} (h:CnK V w0 φ0 N s Q .ret):RunK P V w0 φ0 N .ret s Q:=fun a w hs hv=>wp_ret (h a w hs hv)
theorem q1tl {x y:Code} {s:St} (h:RunK P V w0 φ0 N x s (Exit.then (y.wp P Q) Q)):RunK P V w0 φ0 N (.seq x y) s Q:=fun a w hs hv=>wp_seq (wp_mono (h a w hs hv) fun _ _ _ h=>h)
theorem q1to {R X:Type} {r:R} {F:X→Option R} {S:X→St} {x y:Code} {s:St} (hj:∀ z,F z=some r→RunK P V w0 φ0 N y (S z) Q) (h:(∀ z,F z=some r→CnK V w0 φ0 N (S z) (Exit.then (y.wp P Q) Q) .normal)→RunK P V w0 φ0 N x s (Exit.then (y.wp P Q) Q)):RunK P V w0 φ0 N (.seq x y) s Q:=q1tl (h hj)
theorem q1tp {R:Type} {r:R} {v:Bool} {A B:Option R} {c:Operand} {x y:Code} {s:St} (hc:stev s c=.bool v) (h:(bif v then A else B)=some r) (ht:A=some r→RunK P V w0 φ0 N x s Q) (hf:B=some r→RunK P V w0 φ0 N y s Q):RunK P V w0 φ0 N (.cond c x y) s Q:=fun a w hs hv=>by
  obtain ⟨η,h1,_⟩:=hs.sr
  have hx:=q5u (h1 0).tr c
  rw [show xev (q80 s.tm .lf) c=.bool v from hc] at hx
  have hcv:a.eval c=.bool v:=by
    generalize a.eval c=u at hx
    cases hx;rfl
  refine wp_cond hcv ?_
  cases v with
  | true=>exact ht h a w hs hv
  | false=>exact hf h a w hs hv
theorem q1tq (hm:P.follows .mixedOrders=true) (hT:TysOK P T) (hC:OrcOK P C) {ns:List Nat} (hV:∀ n v,V n v→n∈ns) {R Y:Type} {r:R} {rid:Nat} {ops:Array Oper} {draw:Bool} {keep:List (Nat×Kd)} {s:St} {t:Dt Y} {S:Y→St} {K:Y→Option R}
    (hd:dstB ns ops=true) (hreg:treg T C N ops draw keep s some=t.eval fun y=>some (S y)) (h:t.eval K=some r) (hk:∀ y,K y=some r→CnK V w0 φ0 N (S y) Q .normal):RunK P V w0 φ0 N (.region rid ops draw) s Q:=by
  obtain ⟨y,h1,h2⟩:=t.one h
  rw [h2] at hreg
  obtain ⟨s',h3,h4⟩:=q8x (D:=φ0.D) hm hT hC hreg
  injection h3 with h3;subst h3
  intro a w hs hv
  have h5:=q1t6 hV hd hv (h4 w0 φ0 a w (fun e a w=>e=.normal∧SS w0 φ0 N (S y) a w) rfl hs fun a' w' h=>⟨rfl,h⟩)
  have h6:(Code.region rid ops draw).wp P (QK V fun e a w=>e=.normal∧SS w0 φ0 N (S y) a w) a w:=by
    cases draw with
    | true=>exact wp_region_any hm h5
    | false=>exact wp_region_list h5
  refine wp_mono h6 fun e a' w' ⟨⟨he,h7⟩,h8⟩=>?_
  subst he
  exact hk y h1 a' w' h7 (h8 rfl)
theorem q1tr {tm:List (Nat×LV)} {ob:List Ob} {s:St} {e:Exit} (ks:List Nat) (hs:tnum (qe6 ks tm) (q82 ob) some=some s) (h:CnK V w0 φ0 N s Q e):CnK V w0 φ0 N ⟨tm,ob⟩ Q e:=fun a w hss hv=>by
  obtain ⟨s',h1,h2⟩:=q8w hs
  injection h1 with h1;subst h1
  obtain ⟨⟨η,g1,g2,g3⟩,g4,g5⟩:=hss
  exact h a w (h2 w0 φ0 0 η w a N (g1 0) (fun n l hl=>g2 n l (qe7 ks tm _ hl)) g3 g4 g5) hv
end
structure MSpec where
  g:FuncId
  τ1:List Pk
  ρ:Row
  τ2:List Pk
  σ:Row
  k:IntKind
  F:dens τ1→den ρ→dens τ2→List (den σ)→Option (Int×List (den σ))
structure COKM (P:Program) (S:MSpec):Prop where
  ok:∀ x1 a x2 xs r,S.F x1 a x2 xs=some r→∀ (w:World) (η:Emb) (vs:List Value),(∀ M,HR M η (cmem xs) w)→VRs η (q9o S.τ1 x1 ++ .agg (split S.ρ a ++ [.rs 0]) :: q9o S.τ2 x2) vs →
    Calls P S.g vs.toArray w fun e w'=>e=.returned (.int S.k r.1)∧(∀ M,HR M η (cmem r.2) w')∧Fr w (cFz xs η) (cmem r.2) η w'
  body:q5q P S.g
section
variable {P:Program} {M:Nat} {H:LH} {η:Emb} {w:World}
theorem q1ts {n x:Nat} {o ob:Ob} (hx:(H.put n (some o)).get x=some ob):(x=n∧ob=o)∨(x≠n∧H.get x=some ob):=by
  rw [LH.get_put] at hx
  split at hx
  · rename_i he;injection hx with hx;exact .inl ⟨he,hx.symm⟩
  · rename_i he;exact .inr ⟨he,hx⟩
theorem VRs.snoc {cs:List LV} {l:LV} {vs:List Value} (h:VRs η (cs ++ [l]) vs):∃ us u,vs=us ++ [u]∧VRs η cs us∧VR η l u:=by
  have t1:=h.take cs.length
  have t2:=h.drop cs.length
  rw [List.take_left] at t1
  rw [List.drop_left] at t2
  obtain ⟨u,us2,e,g1,g2⟩:=t2.uncons
  have e2:us2=[]:=by have:=g2.1;simpa using this.symm
  subst e2
  exact ⟨vs.take cs.length,u,by rw [← e,List.take_append_drop],t1,g1⟩
theorem q1tt {η0:Emb} {m n:Nat} {σ:Row} {ys:List (den σ)} (h:Lv η0 w m (.rows σ ys)) (hp:qda σ=true) (l0:η0.loc m=η.loc n) (d0:η0.hdr m=η.hdr n):Lv η w n (.rows σ ys):=by
  cases h with
  | rows k1 k2 k3 k4 k5=>exact .rows (by rw [← l0];exact k1) (qe1 hp k2) (by rw [← d0];exact k3) k4 k5
  | none k1 k2=>exact .none (by rw [← l0];exact k1) (by rw [← d0];exact k2)
theorem q1tu {S:MSpec} (hS:COKM P S) (hp:qda S.σ=true) {a1 a2 cs:List LV} {n:Nat} {xs:List (den S.σ)} {r:Int×List (den S.σ)} {x1:dens S.τ1} {a:den S.ρ} {x2:dens S.τ2} (h1:decs H S.τ1 a1=some x1) (h2:decs H S.τ2 a2=some x2) (hj:join S.ρ cs=some a)
    (hn:H.get n=some (.rows S.σ xs)) (hA:n ∉ deep H ((a1++a2).flatMap q6l)) (hF:S.F x1 a x2 xs=some r) :
    q5p P S.g (a1 ++ .agg (cs ++ [.rs n]) :: a2) H (.int S.k r.1,H.put n (some (.rows S.σ r.2))):=by
  generalize hAe:deep H ((a1++a2).flatMap q6l)=A at hA
  have hAm:∀ l∈a1++a2,∀ k∈deep H (q6l l),k∈A:=fun l hl k hk=>by rw [← hAe];exact qdv (fun m hm=>List.mem_flatMap.2 ⟨l,hl,hm⟩) hk
  refine ⟨Logged.put H hn _,fun M η w vs h hM hv=>?_⟩
  obtain ⟨φ,hph⟩:=qdp H η w A
  have hphi:∀ k ob,φ k=some ob→w.heap[k]?=some ob:=fun k ob hk=>by
    rcases hph.cases k ob hk with h1 | ⟨_,_,h1⟩
    · exact h.fz k ob h1
    · exact h1
  have hnd:q8s [n]=true:=rfl
  have hsub:=q8u hnd (q1ki hn) h
  let η0:Emb:=⟨(η.sub [n]).loc,(η.sub [n]).hdr,φ⟩
  have l0:η0.loc 0=η.loc n:=rfl
  have d0:η0.hdr 0=η.hdr n:=rfl
  have lx:∀ k,1≤k→η0.loc k=none:=fun k hk=>by
    show ([n][k]?).bind η.loc=none
    rw [List.getElem?_eq_none (by simpa using hk)];rfl
  have hle0:(η.sub [n]).le η0:=⟨fun _ _ h=>h,fun _ _ h=>h,fun k ob hk=>hph.fz k ob hk⟩
  have hlb0:∀ k,LB (cmem xs) η0 k→∃ L',η.loc n=some L'∧L'.block=k:=fun k ⟨j,ob,L',hj,hL',hk⟩=>by
    match j with
    | 0=>exact ⟨L',hL',hk⟩
    | j+1=>rw [lx _ (by omega)] at hL';cases hL'
  have hlbH:∀ k,LB (cmem xs) η0 k→LB H η k:=fun k hk=>let ⟨L',g2,g3⟩:=hlb0 k hk;⟨n,_,L',hn,g2,g3⟩
  have hsep0:∀ k,LB (cmem xs) η0 k→φ k=none:=fun k hk=>by
    cases hf:φ k with
    | none=>rfl
    | some o =>
      exfalso
      obtain ⟨L',g2,g3⟩:=hlb0 k hk
      rcases hph.cases k o hf with h3 | ⟨_,⟨m,hm,ob',L2,m1,m2,m3⟩,_⟩
      · rw [h.sep k (hlbH k hk)] at h3;cases h3
      · have := h.inj n m _ _ _ _ hn m1 g2 m2 (by rw [g3, m3])
        subst this
        exact hA hm
  have hr0:∀ M,HR M η0 (cmem xs) w:=fun M=>⟨(hsub M).dom,(hsub M).lt,fun j ob hj=>((hsub M).live j ob hj).move hle0 rfl (Nat.le_refl _) fun _ _=>rfl,(hsub M).inj,hphi,hsep0,(hsub M).ok⟩
  have hfro:(Emb.fro φ).le η0:=⟨fun _ _ h=>(by cases h),fun _ _ h=>(by cases h),fun _ _ h=>h⟩
  obtain ⟨us,v0,us2,rfl,q1,q0,q2⟩:∃ us v0 us2,vs=us++v0 :: us2∧VRs η a1 us∧VR η (.agg (cs ++ [.rs n])) v0∧VRs η a2 us2:=by
    have t1:=hv.take a1.length
    have t2:=hv.drop a1.length
    rw [List.take_left] at t1
    rw [List.drop_left] at t2
    obtain ⟨v0,us2,e,g1,g2⟩:=t2.uncons
    exact ⟨vs.take a1.length,v0,us2,by rw [← e,List.take_append_drop],t1,g1,g2⟩
  have r1:=(qdy h hph h1 (fun l hl=>hAm l (List.mem_append_left _ hl)) q1).mono hfro
  have r2:=(qdy h hph h2 (fun l hl=>hAm l (List.mem_append_right _ hl)) q2).mono hfro
  have r0:VR η0 (.agg (split S.ρ a ++ [.rs 0])) v0:=by
    cases q0 with
    | agg hl hh =>
      obtain ⟨ws,u,rfl,k1,k2⟩:=VRs.snoc (η:=η) ⟨hl,hh⟩
      have k3:=q2e S.ρ hj k1
      have k4:VRs η0 (split S.ρ a) ws:=⟨k3.1,fun i c v hc hv=>q8h (fun k ob hk=>hph.fz k ob hk) S.ρ a (List.mem_of_getElem? hc) (k3.2 i c v hc hv)⟩
      have k5:VR η0 (.rs 0) u:=by
        cases k2 with
        | rs hq=>exact .rs (by rw [d0];exact hq)
      have k6:=k4.append (VRs.cons k5 VRs.nil)
      exact .agg k6.1 k6.2
  refine Calls.mono (hS.ok x1 a x2 xs r hF w η0 _ hr0 (r1.append (VRs.cons r0 r2))) fun e w' ⟨e1,e3,e4⟩=>⟨_,η,e1,.int _ _,?_⟩
  have gm:(cmem r.2).get 0=some (.rows S.σ r.2):=by unfold cmem;rw [q85];rfl
  have hL0:∀ j ob L',H.get j=some ob→η.loc j=some L'→L'.block<w.heap.size:=fun j ob L' g1 g2=>(h.live j ob g1).lt g2
  have hkeep:∀ j ob,H.get j=some ob→j≠n→∀ L',η.loc j=some L'→¬ LB (cmem xs) η0 L'.block:=fun j ob g1 n2 L' g2 hl=>by
    obtain ⟨L2,k2,k3⟩:=hlb0 _ hl
    exact n2 (h.inj n j _ _ _ _ hn g1 k2 g2 k3).symm
  have hold:∀ j ob,(H.put n (some (.rows S.σ r.2))).get j=some ob→∃ ob0,H.get j=some ob0:=fun j ob hj=>by
    rcases q1ts hj with ⟨rfl,_⟩ | ⟨_,hg⟩
    · exact ⟨_,hn⟩
    · exact ⟨_,hg⟩
  have hlb2:∀ k,LB (H.put n (some (.rows S.σ r.2))) η k→LB H η k:=fun k ⟨j,ob,L',hj,hL',hk⟩=>let ⟨ob0,hg⟩:=hold j ob hj;⟨j,ob0,L',hg,hL',hk⟩
  refine ⟨Emb.le_refl _,fun _ _=>⟨rfl,rfl⟩,Nat.le_refl _,⟨h.dom,fun j ob hj=>let ⟨ob0,hg⟩:=hold j ob hj;h.lt j ob0 hg,fun j ob hj=>?_,fun j1 j2 o1 o2 L1 L2 k1 k2 t1 t2 he=>?_,fun k ob hk=>(e3 0).fz k ob (hph.fz k ob hk),fun k hk=>h.sep k (hlb2 k hk),h.ok⟩,e4.size,fun k hk hl=>e4.same k hk fun hl0=>hl (hlbH k hl0),fun k hk=>.inl (hlb2 k hk),fun k ob hk=>.inl hk,e4.os,e4.tape,e4.output,e4.drawn⟩
  · rcases q1ts hj with ⟨rfl, rfl⟩ | ⟨hne, hg⟩
    · exact q1tt ((e3 0).live 0 _ gm) hp l0 d0
    · exact (h.live j ob hg).move (Emb.le_refl _) rfl e4.size fun L' hL'=>e4.same _ (hL0 _ _ _ hg hL') (hkeep _ _ hg hne L' hL')
  · obtain ⟨c1, g1⟩ := hold _ _ k1
    obtain ⟨c2,g2⟩:=hold _ _ k2
    exact h.inj _ _ _ _ _ _ g1 g2 t1 t2 he
def orcM (S:MSpec) (C:Orc):Orc:=fun h args H =>
  bif Nat.beq h S.g then (match args.drop S.τ1.length with
    | .agg cs :: a2 => (match cs.drop S.ρ.size with
      | [.rs n] => (match H.get n with
        | some (.rows σ xs) => if e : σ = S.σ then (match decs H S.τ1 (args.take S.τ1.length), join S.ρ (cs.take S.ρ.size), decs H S.τ2 a2 with
          | some x1, some a, some x2 => bif memB (deep H ((args.take S.τ1.length ++ a2).flatMap q6l)) n then none else
            some ⟨Int×List (den S.σ),S.F x1 a x2 (e ▸ xs),fun r=>(.int S.k r.1,H.put n (some (.rows S.σ r.2)))⟩
          | _,_,_=>none) else none
        | _=>none)
      | _=>none)
    | _=>none) else C h args H
theorem q1tv {S:MSpec} (hS:COKM P S) (hp:qda S.σ=true) {C:Orc} (hC:OrcOK P C):OrcOK P (orcM S C):=by
  refine ⟨fun h args H p x hp' hx=>?_⟩
  unfold orcM at hp'
  rw [Bool.cond_eq_ite] at hp'
  split at hp'
  · rename_i he
    have he:=Nat.eq_of_beq_eq_true he
    subst he
    split at hp'
    · rename_i cs a2 hdr
      split at hp'
      · rename_i n hcs
        split at hp'
        · rename_i σ xs hn
          split at hp'
          · rename_i e
            subst e
            split at hp'
            · rename_i x1 a x2 d1 dj d2
              rw [Bool.cond_eq_ite] at hp'
              split at hp'
              · cases hp'
              · rename_i hc
                injection hp' with hp'
                subst hp'
                have hargs:args=args.take S.τ1.length ++ .agg (cs.take S.ρ.size ++ [.rs n]) :: a2:=by rw [← hcs,List.take_append_drop,← hdr,List.take_append_drop]
                refine .inl ⟨?_,hS.body⟩
                have:=q1tu hS hp d1 d2 dj hn (fun hm=>hc (q6f.2 hm)) hx
                rw [← hargs] at this
                exact this
            · cases hp'
          · cases hp'
        · cases hp'
      · cases hp'
    · cases hp'
  · exact hC.call h args H p x hp' hx
def EndK (V:Nat→Value→Prop) (w0:World) (φ0:Fz0) (N d p:Nat) (k:IntKind) (ρ σ:Row) (r:Int×List (den σ)) (Q:Exit→Act→World→Prop):Prop :=
  ∀ (s:St) (n:Nat) (a:den ρ),stev s (.tmp d)=.int k r.1→stev s (.tmp p)=.agg (split ρ a ++ [.rs n])→(q82 s.ob).get n=some (.rows σ r.2)→CnK V w0 φ0 N s Q .normal∧CnK V w0 φ0 N s Q .ret
theorem q1tw {η η1:Emb} {w w':World} {n:Nat} {σ:Row} {xs ys:List (den σ)} (h:Lv η w 0 (.rows σ xs)) (k:Lv η1 w' n (.rows σ ys)) (hp:qda σ=true) {v:Value} (hv:η.hdr 0=some v) (kv:η1.hdr n=some v) (hs:w.heap.size≤w'.heap.size):Lv η w' 0 (.rows σ ys):=by
  cases h with
  | none hL hh =>
    rename_i A
    rw [hv] at hh;injection hh with hh;subst hh
    cases k with
    | none kL kh=>exact .none hL hv
    | rows kL ka kh kc kr =>
      rw [kv] at kh;injection kh with kh;injection kh with e1 e2 e3
      have:ys=[]:=List.eq_nil_of_length_eq_zero e2.symm
      subst this
      exact .none hL hv
  | rows hL ha hh hc hr =>
    rename_i L c
    rw [hv] at hh;injection hh with hh;subst hh
    cases k with
    | none kL kh =>
      rw [kv] at kh;injection kh with kh;injection kh with e1 e2 e3
      subst e3
      have hx0:xs.length=0:=e2
      refine .rows hL ⟨Nat.lt_of_lt_of_le ha.lt hs,by rw [qc];simp only [List.length_nil,Nat.zero_mul] at hr ⊢;omega,fun j h1 h2=>?_,fun j cc hcc=>by simp [flat] at hcc⟩ (by rw [hv,hx0];rfl) (Nat.le_refl _) hr
      rw [Nat.zero_mul] at hr;omega
    | rows kL ka kh kc kr =>
      rename_i L' c'
      rw [kv] at kh;injection kh with kh;injection kh with e1 e2 e3
      injection e1 with e1;injection e1 with e4 e5 _
      obtain ⟨b1,b2,b3⟩:=L
      obtain ⟨b1',b2',b3'⟩:=L'
      simp only at e4 e5 hr kr
      subst e4 e5 e3
      have:b3'=b3:=by omega
      subst this
      exact .rows hL (qe1 hp ka) (by rw [hv,e2]) kc kr
theorem q1tx {T : Tys} (hT : TysOK P T) {S : MSpec} (hp : qda S.σ = true) {fn : Func} {c : Code} {d : Nat} (hfn : P.funcs[S.g]? = some fn) (hc : fn.body = some c) (hname : ¬ fn.name = "runtime.NumGoroutine") (hres : fn.results = #[.tmp d])
    (h:∀ (x:dens S.τ1×den S.ρ×dens S.τ2×List (den S.σ)) (r:Int×List (den S.σ)),S.F x.1 x.2.1 x.2.2.1 x.2.2.2=some r→∀ V w0 φ0 Q,(∀ n v,V n v→n ∈ [S.τ1.length])→EndK V w0 φ0 fn.ntmps d S.τ1.length S.k S.ρ S.σ r Q →
      RunK P V w0 φ0 fn.ntmps c ⟨nums 0 (q9o S.τ1 x.1 ++ .agg (split S.ρ x.2.1 ++ [.rs 0]) :: q9o S.τ2 x.2.2.1),[.rows S.σ x.2.2.2]⟩ Q):COKM P S:=by
  refine ⟨fun x1 a x2 xs r hx w η vs hr hv=>?_,fn,c,hfn,hc,hname⟩
  have hlenA:∀ (τs:List Pk) (x:dens τs),(q9o τs x).length=τs.length:=fun τs=>by
    induction τs with
    | nil=>exact fun _=>rfl
    | cons p τs ih=>exact fun x=>by rw [q9o,List.length_cons,ih x.2,List.length_cons]
  obtain ⟨v0,hv0,hvr⟩:∃ v0,vs[S.τ1.length]?=some v0∧VR η (.agg (split S.ρ a ++ [.rs 0])) v0:=hv.get (by rw [List.getElem?_append_right (by rw [hlenA];exact Nat.le_refl _),hlenA,Nat.sub_self];rfl)
  obtain ⟨hd0,us0,hq0,rfl⟩:∃ hd0 us0,η.hdr 0=some hd0∧v0=.agg (us0 ++ [hd0]).toArray:=by
    cases hvr with
    | agg hl hh =>
      obtain ⟨ws,u,rfl,k1,k2⟩:=VRs.snoc (η:=η) ⟨hl,hh⟩
      cases k2 with
      | rs hq=>exact ⟨u,ws,hq,rfl⟩
  have htm:∀ (n:Nat) v,vs[n]?=some v→(vs.toArray++Array.replicate (fn.ntmps - vs.toArray.size) undef)[n]?=some v:=fun n v e1=>by
    have hlt:=(List.getElem?_eq_some_iff.1 e1).1
    rw [Array.getElem?_append_left (by simpa using hlt)]
    simpa using e1
  refine calls_of_wp hfn hc ?_
  refine h (x1,a,x2,xs) r hx (fun n v=>n=S.τ1.length∧v=.agg (us0 ++ [hd0]).toArray) w (cFz xs η) _ (fun n v hn=>by rw [hn.1];exact List.mem_cons_self ..) (fun s n a' g1 g2 g3=>?_) _ w ⟨⟨η,hr,fun n l hl=>?_,⟨Nat.le_refl _,fun _ _ _=>rfl,fun k hk=>.inr hk,fun _ _ h=>h,fun _ _ h=>.inl h,rfl,rfl,rfl,Nat.le_refl _,fun _ _ h=>h.elim⟩⟩,?_,rfl⟩ (fun n v hn=>by rw [hn.1,hn.2];exact htm _ _ hv0)
  · have fin:∀ a2 w2,SS w (cFz xs η) fn.ntmps s a2 w2→KT (fun n v=>n=S.τ1.length∧v=.agg (us0 ++ [hd0]).toArray) a2→a2.defers=[]∧∃ v,(results fn a2.tmps).run P w2=.ok v w2∧((Ending.returned v=.returned (.int S.k r.1))∧(∀ M,HR M η (cmem r.2) w2)∧Fr w (cFz xs η) (cmem r.2) η w2):=by
      intro a2 w2 hss hkt
      obtain ⟨η1,hsr,hfr⟩:=hss.sr
      have e1:=q5u (hsr 0).tr (.tmp d)
      rw [show xev (q80 s.tm .lf) (.tmp d)=.int S.k r.1 from g1] at e1
      have e2:=q5u (hsr 0).tr (.tmp S.τ1.length)
      rw [show xev (q80 s.tm .lf) (.tmp S.τ1.length)=.agg (split S.ρ a' ++ [.rs n]) from g2] at e2
      have e3:a2.eval (.tmp S.τ1.length)=.agg (us0 ++ [hd0]).toArray:=by
        have:=hkt S.τ1.length _ ⟨rfl,rfl⟩
        show a2.tmps.getD S.τ1.length undef=_
        rw [Array.getD_eq_getD_getElem?,this];rfl
      rw [e3] at e2
      have hqn:η1.hdr n=some hd0:=by
        generalize hva:(Value.agg (us0 ++ [hd0]).toArray)=va at e2
        cases e2 with
        | agg hl hh =>
          obtain ⟨ws,u,rfl,k1,k2⟩:=VRs.snoc (η:=η1) ⟨hl,hh⟩
          injection hva with hva
          have hva:=congrArg Array.toList hva
          simp only at hva
          have:=List.append_inj_right' hva rfl
          injection this with this
          subst this
          cases k2 with
          | rs hq=>exact hq
      have hn1:=(hsr 0).hr.live n _ g3
      have gx:(cmem xs).get 0=some (.rows S.σ xs):=by unfold cmem;rw [q85];rfl
      have gm:(cmem r.2).get 0=some (.rows S.σ r.2):=by unfold cmem;rw [q85];rfl
      have hlv:=q1tw ((hr 0).live 0 _ gx) hn1 hp hq0 hqn hfr.size
      have g0:∀ {zs:List (den S.σ)} {j:Nat} {ob:Ob},(cmem zs).get j=some ob→j=0:=fun {zs j ob} hj=>by
        unfold cmem at hj;rw [q85] at hj
        have:=(List.getElem?_eq_some_iff.1 hj).1
        simpa using this
      have hlb:∀ k,LB (cmem r.2) η k→LB (cmem xs) η k:=fun k ⟨j,ob,L',hj,hL',hk⟩=>by
        have:=g0 hj;subst this
        exact ⟨0,_,L',gx,hL',hk⟩
      refine ⟨hss.defers,.int S.k r.1,?_,rfl,fun M=>⟨(hr M).dom,fun j ob hj=>by have:=g0 hj;subst this;exact Nat.one_pos,fun j ob hj=>?_,fun b1 b2 o1 o2 L1 L2 h1 h2 _ _ _=>(g0 h1).trans (g0 h2).symm,fun k ob hk=>(hsr 0).hr.fz k ob (hfr.fz0 k ob hk),fun k hk=>(hr M).sep k (hlb k hk),(hr M).ok⟩,⟨hfr.size,hfr.same,fun k hk=>.inr (hlb k hk),fun _ _ h=>h,fun _ _ h=>.inl h,hfr.os,hfr.tape,hfr.output,hfr.drawn,fun _ _ h=>h.elim⟩⟩
      · have e4:a2.tmps.getD d undef=.int S.k r.1:=by
          have e5:a2.eval (.tmp d)=a2.tmps.getD d undef:=rfl
          rw [← e5]
          generalize a2.eval (.tmp d)=u at e1
          cases e1;rfl
        unfold results
        rw [hres]
        rw [Array.getD_eq_getD_getElem?] at e4
        simp [e4]
      · have := g0 hj; subst this
        rw [gm] at hj;injection hj with hj;subst hj
        exact hlv
    exact ⟨fun a2 w2 hss hk=>fin a2 w2 hss hk,fun a2 w2 hss hk=>fin a2 w2 hss hk⟩
  · obtain ⟨_, h2⟩ := q9p _ 0 n l hl
    rw [Nat.sub_zero] at h2
    obtain ⟨v,e1,e2⟩:=hv.get h2
    exact ⟨v,htm n v e1,e2⟩
  · simp;omega
end
end Go.Tx

namespace Go.Proofs.Ytoakhncbmpdacaa
open Go Go.Tx Go.Proofs.Try
set_option maxRecDepth 100000
set_option maxHeartbeats 0
abbrev q1ty:List Pk:=[.row qks true,.row Rii true]
abbrev q1tz:List Pk:=[.row Ri false,.row Ri false]
abbrev q1u0:Type:=(qkt×Dii×Unit)×Di×(Di×Di×Unit)×List Diii
abbrev q1u1:Type:=Int×List Diii
def q1u2 (F:q1u0→Option q1u1):MSpec:=⟨76,q1ty,Ri,q1tz,Riii,.i64,fun a b c e=>F (a,b,c,e)⟩
abbrev q1u3:Type:=(q1u0→Option q1u1)×(q1fn→Option q1fo)×Unit
def q1u4 (d:Nat) (me:(q1u0→Option q1u1)):q1u3:=(me,q1gq d,())
def q1u5 (C:q1u3):List Go.Tx.Spec:=[q1fq C.2.1]
abbrev q1u6:Type:=List Diii×Int×Int×Int×Int×Int×List Diii
def q1u7 (v:q1u6):St:=⟨[(0,.agg [.fz Riii v.1]),(1,.agg [i6 v.2.1,i6 v.2.2.1]),(2,.agg [i6 v.2.2.2.1,.rs 0]),(3,i6 v.2.2.2.2.1),(4,i6 v.2.2.2.2.2.1)],[.rows Riii v.2.2.2.2.2.2]⟩
abbrev q1u8:Type:=Int×Int×Int×List Diii×List Diii×Int×Int×Int
def q1u9 (v:q1u8):St:=⟨[(2,.agg [i6 v.1,.rs 0]),(3,i6 v.2.1),(4,i6 v.2.2.1),(5,.ptr 1 0),(6,.ptr 2 0),(7,.ptr 3 0)],[.rows Riii v.2.2.2.1,.cells [.fz Riii v.2.2.2.2.1],.cells [i6 v.2.2.2.2.2.1,i6 v.2.2.2.2.2.2.1],.cells [i6 v.2.2.2.2.2.2.2,.rs 0]]⟩
def q1ua (C:q1u3) (v:q1u6):Dt q1u8:=(Dt.ret (v.2.2.2.1,v.2.2.2.2.1,v.2.2.2.2.2.1,v.2.2.2.2.2.2,v.1,v.2.1,v.2.2.1,v.2.2.2.1))
abbrev q34x {V Y:Type}:=@rg q1u3 V Y tysT (fun C=>(orcM (q1u2 C.1) (orc (q1u5 C)))) 43
theorem q1ub C v:q34x (regO (qea f76) 0) false [(2,.any),(3,.any),(4,.any),(5,(.box [.val Riii])),(6,.any),(7,(.box [.any,.own Riii]))] q1u7 q1ua q1u9 C v:=rgI (by kernel_rfl)
abbrev q1uc:Type:=Int×Int×Int×Int×List Diii×List Diii×Int×Int×Int
def q1ud (v:q1uc):St:=⟨[(2,.agg [i6 v.1,.rs 0]),(3,i6 v.2.1),(4,i6 v.2.2.1),(5,.ptr 1 0),(6,.ptr 2 0),(7,.ptr 3 0),(11,i6 v.2.2.2.1)],[.rows Riii v.2.2.2.2.1,.cells [.fz Riii v.2.2.2.2.2.1],.cells [i6 v.2.2.2.2.2.2.1,i6 v.2.2.2.2.2.2.2.1],.cells [i6 v.2.2.2.2.2.2.2.2,.rs 0]]⟩
def q1ue (C:q1u3) (v:q1u8):Dt q1uc:=(Dt.bnd (C.2.1 ((v.2.2.2.2.1,()),(v.2.2.2.2.2.1,v.2.2.2.2.2.2.1,()),(v.2.1,()),(v.2.2.1,()),())) fun r1=>(Dt.ret (v.1,v.2.1,v.2.2.1,r1,v.2.2.2.1,v.2.2.2.2.1,v.2.2.2.2.2.1,v.2.2.2.2.2.2.1,v.2.2.2.2.2.2.2)))
theorem q1uf C v:q34x (regO (qea f76) 1) false [(2,.any),(3,.any),(4,.any),(5,(.box [.val Riii])),(6,.any),(7,(.box [.any,.own Riii])),(11,.any)] q1u9 q1ue q1ud C v:=rgI (by kernel_rfl)
abbrev q1ug:Type:=Int×Int×Int×Int×Bool×List Diii×List Diii×Int×Int×Int
def q1uh (v:q1ug):St:=⟨[(2,.agg [i6 v.1,.rs 0]),(3,i6 v.2.1),(4,i6 v.2.2.1),(5,.ptr 1 0),(6,.ptr 2 0),(7,.ptr 3 0),(11,i6 v.2.2.2.1),(18,.bool v.2.2.2.2.1)],[.rows Riii v.2.2.2.2.2.1,.cells [.fz Riii v.2.2.2.2.2.2.1],.cells [i6 v.2.2.2.2.2.2.2.1,i6 v.2.2.2.2.2.2.2.2.1],.cells [i6 v.2.2.2.2.2.2.2.2.2,.rs 0]]⟩
def q1ui (C:q1u3) (v:q1uc):Dt q1ug:=(Dt.ret (v.1,v.2.1,v.2.2.1,v.2.2.2.1,(decide (v.2.2.2.1≥(0:Int))),v.2.2.2.2.1,v.2.2.2.2.2.1,v.2.2.2.2.2.2.1,v.2.2.2.2.2.2.2.1,v.2.2.2.2.2.2.2.2))
theorem q1uj C v:q34x (regO (qea f76) 2) false [(2,.any),(3,.any),(4,.any),(5,(.box [.val Riii])),(6,.any),(7,(.box [.any,.own Riii])),(11,.any),(18,.any)] q1ud q1ui q1uh C v:=rgI (by kernel_rfl)
abbrev q1uk:Type:=Int×Int×Int×List Diii×List Diii×Int×Int×Int
def q1ul (v:q1uk):St:=⟨[(2,.agg [i6 v.1,.rs 0]),(4,i6 v.2.1),(5,.ptr 1 0),(6,.ptr 2 0),(7,.ptr 3 0),(11,i6 v.2.2.1)],[.rows Riii v.2.2.2.1,.cells [.fz Riii v.2.2.2.2.1],.cells [i6 v.2.2.2.2.2.1,i6 v.2.2.2.2.2.2.1],.cells [i6 v.2.2.2.2.2.2.2,.rs 0]]⟩
def q1um (C:q1u3) (v:q1ug):Dt q1uk:=(Dt.bnd (C.1 (((v.2.2.2.2.2.2.1,()),(v.2.2.2.2.2.2.2.1,v.2.2.2.2.2.2.2.2.1,()),()),(v.2.2.2.2.2.2.2.2.2,()),((v.2.1,()),(v.2.2.2.1,()),()),v.2.2.2.2.2.1)) fun r1=>(Dt.ite (inB v.2.2.2.1 (List.length v.2.2.2.2.2.1)) (Dt.ret (v.1,v.2.2.1,v.2.2.2.1,(List.set r1.2 (v.2.2.2.1).toNat ((elt ziii r1.2 (v.2.2.2.1).toNat).1,r1.1,(elt ziii r1.2 (v.2.2.2.1).toNat).2.2.1,())),v.2.2.2.2.2.2.1,v.2.2.2.2.2.2.2.1,v.2.2.2.2.2.2.2.2.1,v.2.2.2.2.2.2.2.2.2)) Dt.fail))
theorem q1un C v:q34x (regO (qea f76) 3) true [(2,.any),(4,.any),(5,(.box [.val Riii])),(6,.any),(7,(.box [.any,.own Riii])),(11,.any)] q1uh q1um q1ul C v:=rgI (by kernel_rfl)
abbrev q1uo:Type:=Int×Int×List Diii
def q1up (v:q1uo):St:=⟨[(2,.agg [i6 v.1,.rs 0]),(11,i6 v.2.1)],[.rows Riii v.2.2]⟩
def q1uq (C:q1u3) (v:q1uk):Dt q1uo:=(Dt.bnd (C.1 (((v.2.2.2.2.1,()),(v.2.2.2.2.2.1,v.2.2.2.2.2.2.1,()),()),(v.2.2.2.2.2.2.2,()),(((IntKind.wrap .i64 (v.2.2.1+(1:Int))),()),(v.2.1,()),()),v.2.2.2.1)) fun r1=>(Dt.ite (inB v.2.2.1 (List.length v.2.2.2.1)) (Dt.ret (v.1,v.2.2.1,(List.set r1.2 (v.2.2.1).toNat ((elt ziii r1.2 (v.2.2.1).toNat).1,(elt ziii r1.2 (v.2.2.1).toNat).2.1,r1.1,())))) Dt.fail))
theorem q1ur C v:q34x (regO (qea f76) 4) true (an [2,11]) q1ul q1uq q1up C v:=rgI (by kernel_rfl)
abbrev q1us:Type:=Int×Int×List Diii
def q1ut (v:q1us):St:=⟨[(2,.agg [i6 v.1,.rs 0]),(10,i6 v.2.1)],[.rows Riii v.2.2]⟩
def q1uu (C:q1u3) (v:q1uo):Dt q1us:=(Dt.ret (v.1,v.2.1,v.2.2))
theorem q1uv C v:q34x (regO (qea f76) 5) false (an [2,10]) q1up q1uu q1ut C v:=rgI (by kernel_rfl)
def q1uw  (d:Nat) (me:(q1u0→Option q1u1))  (z:Int×Int×List Diii):Option (q1u1) :=
 (q1uu (q1u4 d me) z).eval fun y5 =>
 some (y5.2.1,y5.2.2)
def q1ux (d:Nat) (me:(q1u0→Option q1u1)) (x:q1u0):Option q1u1 :=
 (q1ua (q1u4 d me) (x.1.1.1,x.1.2.1.1,x.1.2.1.2.1,x.2.1.1,x.2.2.1.1.1,x.2.2.1.2.1.1,x.2.2.2)).eval fun y0 =>
 (q1ue (q1u4 d me) y0).eval fun y1 =>
 (q1ui (q1u4 d me) y1).eval fun y2 =>
 bif y2.2.2.2.2.1 then ((q1um (q1u4 d me) y2).eval fun y3 =>
 (q1uq (q1u4 d me) y3).eval fun y4 =>
 q1uw d me  y4) else (q1uw d me  (y2.1,y2.2.2.2.1,y2.2.2.2.2.2.1))
theorem q1uy (d:Nat) (me:(q1u0→Option q1u1)) (hme:COKM prog (q1u2 me)):COKM prog (q1u2 (q1ux d me)):=by
 have hm:prog.follows .mixedOrders=true:=mixed
 have hT:=tys
 have hC0:OrcOK prog (orc (q1u5 (q1u4 d me))):=qe4 (by
  intro S hS
  simp only [q1u5,List.mem_cons,List.not_mem_nil,or_false] at hS
  subst hS;exact q1gr d)
 have hC:OrcOK prog (orcM (q1u2 (q1u4 d me).1) (orc (q1u5 (q1u4 d me)))):=(q1tv hme rfl hC0)
 refine q1tx (c:=qea f76) (fn:=f76) (d:=10) hT (by kernel_rfl) (by kernel_rfl) (by kernel_rfl) (by decide) (by kernel_rfl) fun x r h V w0 φ0 Q hV hend=>?_
 replace h:q1ux d me x=some r:=h
 unfold q1ux at h
 show RunK prog V w0 φ0 43 (qea f76) ⟨[(0,.agg [.fz Riii x.1.1.1]),(1,.agg [.int .i64 x.1.2.1.1,.int .i64 x.1.2.1.2.1]),(2,.agg [.int .i64 x.2.1.1,.rs 0]),(3,.int .i64 x.2.2.1.1.1),(4,.int .i64 x.2.2.1.2.1.1)],[.rows Riii x.2.2.2]⟩ Q
 refine q1tl ?_
 refine q1tq hm hT hC hV (by kernel_rfl) (q1ub (q1u4 d me) (x.1.1.1,x.1.2.1.1,x.1.2.1.2.1,x.2.1.1,x.2.2.1.1.1,x.2.2.1.2.1.1,x.2.2.2)) h ?_
 intro y0 h
 refine q1t7 (q1tl ?_)
 refine q1tq hm hT hC hV (by kernel_rfl) (q1uf (q1u4 d me) y0) h ?_
 intro y1 h
 refine q1t7 ?_
 refine q1to (r:=r) (F:=q1uw d me ) (S:=(fun z=>⟨[(2,.agg [i6 z.1,.rs 0]),(11,i6 z.2.1)],[.rows Riii z.2.2]⟩:Int×Int×List Diii→St)) ?_ ?_
 ·
  intro z h
  unfold q1uw at h
  refine q1tl ?_
  refine q1tq hm hT hC hV (by kernel_rfl) (q1uv (q1u4 d me) z) h ?_
  intro y5 h
  refine q1t7 (q1tk ?_)
  cases h
  exact (hend _ 0 (y5.1,()) (by kernel_rfl) (by kernel_rfl) (by kernel_rfl)).2
 intro hj1
 refine q1tl ?_
 refine q1tq hm hT hC hV (by kernel_rfl) (q1uj (q1u4 d me) y1) h ?_
 intro y2 h
 refine q1t7 ?_
 refine q1tp (v:=y2.2.2.2.2.1) (by kernel_rfl) h ?_ ?_
 ·
  intro h
  refine q1tl ?_
  refine q1tq hm hT hC hV (by kernel_rfl) (q1un (q1u4 d me) y2) h ?_
  intro y3 h
  refine q1t7 ?_
  refine q1tq hm hT hC hV (by kernel_rfl) (q1ur (q1u4 d me) y3) h ?_
  intro y4 h
  exact hj1 _ h
 ·
  intro h
  refine q1th ?_
  refine q1tr (s:=⟨[(2,.agg [.int .i64 y2.1,.rs 0]),(11,.int .i64 y2.2.2.2.1)],[.rows Riii y2.2.2.2.2.2.1]⟩) [3,4,5,6,7,18] (by kernel_rfl) ?_
  exact hj1 _ h
def q1uz (d:Nat):Nat→q1u0→Option q1u1
 | 0,_=>none
 | k+1,x=>q1ux d (q1uz d k) x
def q1v0 (d:Nat) (x:q1u0):Option q1u1:=q1uz d d x
theorem q1v1 (d:Nat):COKM prog (q1u2 (q1v0 d)):=by
 have key:∀ k,COKM prog (q1u2 (q1uz d k)):=fun k=>by
  induction k with
  | zero=>exact ⟨fun x1 a x2 xs r h=>(by cases (show (none:Option q1u1)=some r from h)),⟨f76,qea f76,by kernel_rfl,by kernel_rfl,by decide⟩⟩
  | succ k ih=>exact q1uy d _ ih
 exact key d
abbrev q1v2:List Pk:=[.row qks true,.row Rii true]
abbrev q1v3:Type:=qkt×Dii×Unit
abbrev q1v4:Type:=Int×List Diii
def q1v5 (r:q1v4):LV×List Ob:=(.agg [.int .i64 r.1,.rs 0],[.rows Riii r.2])
def q1v6 (F:q1v3→Option q1v4):Go.Tx.Spec:=⟨48,q1v2,q1v4,F,q1v5⟩
abbrev q1v7:Type:=(q1u0→Option q1u1)×Unit
def q1v8 (d:Nat):q1v7:=(q1v0 d,())
def q1v9 (C:q1v7):List Go.Tx.Spec:=[]
abbrev q1va:Type:=List Diii×Int×Int
def q1vb (v:q1va):St:=⟨[(0,.agg [.fz Riii v.1]),(1,.agg [i6 v.2.1,i6 v.2.2])],[]⟩
abbrev q1vc:Type:=List Diii×Int×Int×Int×List Diii
def q1vd (v:q1vc):St:=⟨[(2,.ptr 0 0),(3,.ptr 1 0),(4,.ptr 2 0)],[.cells [.fz Riii v.1],.cells [i6 v.2.1,i6 v.2.2.1],.cells [i6 v.2.2.2.1,.rs 3],.rows Riii v.2.2.2.2]⟩
def q1ve (C:q1v7) (v:q1va):Dt q1vc:=(Dt.ret (v.1,v.2.1,v.2.2,(0:Int),([]:List Diii)))
abbrev q34y {V Y:Type}:=@rg q1v7 V Y tysT (fun C=>(orcM (q1u2 C.1) (orc (q1v9 C)))) 35
theorem q1vf C v:q34y (regO (qea f48) 0) false [(2,(.box [.val Riii])),(3,.any),(4,(.box [.any,.own Riii]))] q1vb q1ve q1vd C v:=rgI (by kernel_rfl)
abbrev q1vg:Type:=List Diii×Int×Int×Int×List Diii×Int×List Diii
def q1vh (v:q1vg):St:=⟨[(2,.ptr 0 0),(3,.ptr 1 0),(4,.ptr 2 0),(5,.ptr 4 0)],[.cells [.fz Riii v.1],.cells [i6 v.2.1,i6 v.2.2.1],.cells [i6 v.2.2.2.1,.rs 3],.rows Riii v.2.2.2.2.1,.cells [i6 v.2.2.2.2.2.1,.rs 5],.rows Riii v.2.2.2.2.2.2]⟩
def q1vi (C:q1v7) (v:q1vc):Dt q1vg:=(Dt.ret (v.1,v.2.1,v.2.2.1,v.2.2.2.1,v.2.2.2.2,(0:Int),([]:List Diii)))
theorem q1vj C v:q34y (regO (qea f48) 1) false [(2,(.box [.val Riii])),(3,.any),(4,(.box [.any,.own Riii])),(5,(.box [.any,.own Riii]))] q1vd q1vi q1vh C v:=rgI (by kernel_rfl)
abbrev q1vk:Type:=Int×List Diii×Int×Int×Int×List Diii×Int×List Diii
def q1vl (v:q1vk):St:=⟨[(2,.ptr 0 0),(3,.ptr 1 0),(4,.ptr 2 0),(5,.ptr 4 0),(6,i6 v.1)],[.cells [.fz Riii v.2.1],.cells [i6 v.2.2.1,i6 v.2.2.2.1],.cells [i6 v.2.2.2.2.1,.rs 3],.rows Riii v.2.2.2.2.2.1,.cells [i6 v.2.2.2.2.2.2.1,.rs 5],.rows Riii v.2.2.2.2.2.2.2]⟩
def q1vm (C:q1v7) (v:q1vg):Dt q1vk:=(Dt.ret ((0:Int),v.1,v.2.1,v.2.2.1,v.2.2.2.1,v.2.2.2.2.1,v.2.2.2.2.2.1,v.2.2.2.2.2.2))
theorem q1vn C v:q34y (regO (qea f48) 2) false [(2,(.box [.val Riii])),(3,.any),(4,(.box [.any,.own Riii])),(5,(.box [.any,.own Riii])),(6,.any)] q1vh q1vm q1vl C v:=rgI (by kernel_rfl)
abbrev q1vo:Type:=Int×Bool×List Diii×Int×Int×Int×List Diii×Int×List Diii
def q1vp (v:q1vo):St:=⟨[(2,.ptr 0 0),(3,.ptr 1 0),(4,.ptr 2 0),(5,.ptr 4 0),(6,i6 v.1),(11,.bool v.2.1)],[.cells [.fz Riii v.2.2.1],.cells [i6 v.2.2.2.1,i6 v.2.2.2.2.1],.cells [i6 v.2.2.2.2.2.1,.rs 3],.rows Riii v.2.2.2.2.2.2.1,.cells [i6 v.2.2.2.2.2.2.2.1,.rs 5],.rows Riii v.2.2.2.2.2.2.2.2]⟩
def q1vq (C:q1v7) (v:q1vk):Dt q1vo:=(Dt.ret (v.1,(decide (v.1<(List.length v.2.1:Int))),v.2.1,v.2.2.1,v.2.2.2.1,v.2.2.2.2.1,v.2.2.2.2.2.1,v.2.2.2.2.2.2.1,v.2.2.2.2.2.2.2))
theorem q1vr C v:q34y (regO (qea f48) 3) false [(2,(.box [.val Riii])),(3,.any),(4,(.box [.any,.own Riii])),(5,(.box [.any,.own Riii])),(6,.any),(11,.any)] q1vl q1vq q1vp C v:=rgI (by kernel_rfl)
def q1vs (C:q1v7) (v:q1vo):Dt q1vk:=(Dt.ite (inB v.1 (List.length v.2.2.1)) (Dt.ite (apB (List.length v.2.2.2.2.2.2.2.2) (List.length ([((elt ziii v.2.2.1 (v.1).toNat).1,(0:Int),(0:Int),())]:List Diii))) (Dt.ret (v.1,v.2.2.1,v.2.2.2.1,v.2.2.2.2.1,v.2.2.2.2.2.1,v.2.2.2.2.2.2.1,v.2.2.2.2.2.2.2.1,(v.2.2.2.2.2.2.2.2++([((elt ziii v.2.2.1 (v.1).toNat).1,(0:Int),(0:Int),())]:List Diii)))) Dt.fail) Dt.fail)
theorem q1vt C v:q34y (regO (qea f48) 5) true [(2,(.box [.val Riii])),(3,.any),(4,(.box [.any,.own Riii])),(5,(.box [.any,.own Riii])),(6,.any)] q1vp q1vs q1vl C v:=rgI (by kernel_rfl)
def q1vu (C:q1v7) (v:q1vk):Dt q1vk:=(Dt.ret ((IntKind.wrap .i64 (v.1+(1:Int))),v.2.1,v.2.2.1,v.2.2.2.1,v.2.2.2.2.1,v.2.2.2.2.2.1,v.2.2.2.2.2.2.1,v.2.2.2.2.2.2.2))
theorem q1vv C v:q34y (regO (qea f48) 4) false [(2,(.box [.val Riii])),(3,.any),(4,(.box [.any,.own Riii])),(5,(.box [.any,.own Riii])),(6,.any)] q1vl q1vu q1vl C v:=rgI (by kernel_rfl)
abbrev q1vw:Type:=Int×List Diii×Int×List Diii
def q1vx (v:q1vw):St:=⟨[(4,.ptr 0 0),(5,.ptr 2 0)],[.cells [i6 v.1,.rs 1],.rows Riii v.2.1,.cells [i6 v.2.2.1,.rs 3],.rows Riii v.2.2.2]⟩
def q1vy (C:q1v7) (v:q1vo):Dt q1vw:=(Dt.bnd (C.1 (((v.2.2.1,()),(v.2.2.2.1,v.2.2.2.2.1,()),()),(v.2.2.2.2.2.2.2.1,()),(((0:Int),()),((List.length v.2.2.1:Int),()),()),v.2.2.2.2.2.2.2.2)) fun r1=>(Dt.ret (v.2.2.2.2.2.1,v.2.2.2.2.2.2.1,r1.1,r1.2)))
theorem q1vz C v:q34y (regO (qea f48) 6) false [(4,(.box [.any,.own Riii])),(5,(.box [.any,.own Riii]))] q1vp q1vy q1vx C v:=rgI (by kernel_rfl)
abbrev q1w0:Type:=Int×List Diii
def q1w1 (v:q1w0):St:=⟨[(4,.ptr 0 0)],[.cells [i6 v.1,.rs 1],.rows Riii v.2]⟩
def q1w2 (C:q1v7) (v:q1vw):Dt q1w0:=(Dt.ret (v.2.2.1,v.2.2.2))
theorem q1w3 C v:q34y (regO (qea f48) 7) false [(4,(.box [.any,.own Riii]))] q1vx q1w2 q1w1 C v:=rgI (by kernel_rfl)
def q1w4 (d:Nat) (self1:(Int×List Diii×Int×Int×Int×List Diii×Int×List Diii)→Option q1v4) (x1:Int×List Diii×Int×Int×Int×List Diii×Int×List Diii):Option q1v4 :=
 (q1vq (q1v8 d) x1).eval fun y3 =>
 bif y3.2.1 then ((q1vs (q1v8 d) y3).eval fun y5 =>
 (q1vu (q1v8 d) y5).eval fun y4 =>
 self1 y4) else ((q1vy (q1v8 d) y3).eval fun y6 =>
 (q1w2 (q1v8 d) y6).eval fun y7 =>
 some y7)
def q1w5 (d:Nat) (x:q1v3):Option q1v4 :=
 (q1ve (q1v8 d) (x.1.1,x.2.1.1,x.2.1.2.1)).eval fun y0 =>
 (q1vi (q1v8 d) y0).eval fun y1 =>
 (q1vm (q1v8 d) y1).eval fun y2 =>
 iter (q1w4 d ) d y2
theorem q1w6 (d:Nat):COK prog (q1v6 (q1w5 d)):=by
 have hm:prog.follows .mixedOrders=true:=mixed
 have hT:=tys
 have hC0:OrcOK prog (orc (q1v9 (q1v8 d))):=qe4 (by
  intro S hS
  simp only [q1v9,List.mem_cons,List.not_mem_nil,or_false] at hS
  all_goals first | cases hS | exact hS.elim)
 have hC:OrcOK prog (orcM (q1u2 (q1v8 d).1) (orc (q1v9 (q1v8 d)))):=(q1tv (q1v1 d) rfl hC0)
 refine q9t (c:=qea f48) (fn:=f48) hT (by kernel_rfl) (by kernel_rfl) (by decide) fun x r h w0 φ0 Q hend=>?_
 replace h:q1w5 d x=some r:=h
 unfold q1w5 at h
 show Run prog w0 φ0 35 (qea f48) ⟨[(0,.agg [.fz Riii x.1.1]),(1,.agg [.int .i64 x.2.1.1,.int .i64 x.2.1.2.1])],[]⟩ Q
 refine q344 hm hT hC (q1vf (q1v8 d) (x.1.1,x.2.1.1,x.2.1.2.1)) h fun y0 h=>?_
 refine q344 hm hT hC (q1vj (q1v8 d) y0) h fun y1 h=>?_
 refine q9d ?_
 refine q344 hm hT hC (q1vn (q1v8 d) y1) h fun y2 h=>?_
 refine q9e ?_
 refine q9j (G:=iter (q1w4 d )) (S:=(fun x1=>⟨[(2,.ptr 0 0),(3,.ptr 1 0),(4,.ptr 2 0),(5,.ptr 4 0),(6,i6 x1.1)],[.cells [.fz Riii x1.2.1],.cells [i6 x1.2.2.1,i6 x1.2.2.2.1],.cells [i6 x1.2.2.2.2.1,.rs 3],.rows Riii x1.2.2.2.2.2.1,.cells [i6 x1.2.2.2.2.2.2.1,.rs 5],.rows Riii x1.2.2.2.2.2.2.2]⟩:Int×List Diii×Int×Int×Int×List Diii×Int×List Diii→St)) (fun _=>rfl) ?_ d _ h
 intro n1 x1 h K1 hn1
 replace h:q1w4 d  (iter (q1w4 d ) n1) x1=some r:=h
 generalize iter (q1w4 d ) n1=self1 at h hn1
 unfold q1w4 at h
 refine q9d ?_
 refine q344 hm hT hC (q1vr (q1v8 d) x1) h fun y3 h=>?_
 refine q9h (v:=y3.2.1) (by kernel_rfl) h ?_ ?_
 ·
  intro h
  refine q99 (q8z (q9d (q9e ?_)))
  refine q9i hm hT hC (q1vt (q1v8 d) y3) h ?_
  intro y5 h
  refine q92 (q8z ?_)
  refine q9i hm hT hC (q1vv (q1v8 d) y5) h ?_
  intro y4 h
  exact hn1 _ h
 ·
  intro h
  refine q9b (q90 (q90 (q94 (q8z ?_))))
  refine q344 hm hT hC (q1vz (q1v8 d) y3) h fun y6 h=>?_
  refine q344 hm hT hC (q1w3 (q1v8 d) y6) h fun y7 h=>?_
  refine q9c ?_
  cases h
  exact (hend _ (by kernel_rfl)).2
abbrev q1w7:List Pk:=[.row qks true,.row Rii true]
abbrev q1w8:Type:=qkt×Dii×Unit
abbrev q1w9:Type:=Int×List Diii×Int
def q1wa (r:q1w9):LV×List Ob:=(.tup [.agg [.int .i64 r.1,.rs 0],.int .i64 r.2.2],[.rows Riii r.2.1])
def q1wb (F:q1w8→Option q1w9):Go.Tx.Spec:=⟨14,q1w7,q1w9,F,q1wa⟩
abbrev q1wc:Type:=(quk→Option qul)×(q1v3→Option q1v4)×Unit
def q1wd (d:Nat):q1wc:=(quq d,q1w5 d,())
def q1we (C:q1wc):List Go.Tx.Spec:=[qun C.1,q1v6 C.2.1]
abbrev q1wf:Type:=List Diii×Int×Int
def q1wg (v:q1wf):St:=⟨[(0,.agg [.fz Riii v.1]),(1,.agg [i6 v.2.1,i6 v.2.2])],[]⟩
abbrev q1wh:Type:=List Diii×Int×Int×Int×List Diii
def q1wi (v:q1wh):St:=⟨[(2,.ptr 0 0),(3,.ptr 1 0),(4,.ptr 2 0)],[.cells [.fz Riii v.1],.cells [i6 v.2.1,i6 v.2.2.1],.cells [i6 v.2.2.2.1,.rs 3],.rows Riii v.2.2.2.2]⟩
def q1wj (C:q1wc) (v:q1wf):Dt q1wh:=(Dt.ret (v.1,v.2.1,v.2.2,(0:Int),([]:List Diii)))
abbrev q34z {V Y:Type}:=@rg q1wc V Y tysT (fun C=>(orc (q1we C))) 17
theorem q1wk C v:q34z (regO (qea f14) 0) false [(2,(.box [.val Riii])),(3,.any),(4,(.box [.any,.own Riii]))] q1wg q1wj q1wi C v:=rgI (by kernel_rfl)
abbrev q1wl:Type:=Int×List Diii×Int×Int×Int×List Diii
def q1wm (v:q1wl):St:=⟨[(2,.ptr 0 0),(3,.ptr 1 0),(4,.ptr 2 0),(6,i6 v.1)],[.cells [.fz Riii v.2.1],.cells [i6 v.2.2.1,i6 v.2.2.2.1],.cells [i6 v.2.2.2.2.1,.rs 3],.rows Riii v.2.2.2.2.2]⟩
def q1wn (C:q1wc) (v:q1wh):Dt q1wl:=(Dt.bnd (C.1 ((v.1,()),(v.2.1,v.2.2.1,()),())) fun r1=>(Dt.ret (r1,v.1,v.2.1,v.2.2.1,v.2.2.2.1,v.2.2.2.2)))
theorem q1wo C v:q34z (regO (qea f14) 1) false [(2,(.box [.val Riii])),(3,.any),(4,(.box [.any,.own Riii])),(6,.any)] q1wi q1wn q1wm C v:=rgI (by kernel_rfl)
abbrev q1wp:Type:=Int×Bool×List Diii×Int×Int×Int×List Diii
def q1wq (v:q1wp):St:=⟨[(2,.ptr 0 0),(3,.ptr 1 0),(4,.ptr 2 0),(6,i6 v.1),(11,.bool v.2.1)],[.cells [.fz Riii v.2.2.1],.cells [i6 v.2.2.2.1,i6 v.2.2.2.2.1],.cells [i6 v.2.2.2.2.2.1,.rs 3],.rows Riii v.2.2.2.2.2.2]⟩
def q1wr (C:q1wc) (v:q1wl):Dt q1wp:=(Dt.ret (v.1,(v.1 != (0:Int)),v.2.1,v.2.2.1,v.2.2.2.1,v.2.2.2.2.1,v.2.2.2.2.2))
theorem q1ws C v:q34z (regO (qea f14) 2) false [(2,(.box [.val Riii])),(3,.any),(4,(.box [.any,.own Riii])),(6,.any),(11,.any)] q1wm q1wr q1wq C v:=rgI (by kernel_rfl)
abbrev q1wt:Type:=Int×Int×List Diii
def q1wu (v:q1wt):St:=⟨[(4,.ptr 0 0),(5,i6 v.1)],[.cells [i6 v.2.1,.rs 1],.rows Riii v.2.2]⟩
def q1wv (C:q1wc) (v:q1wp):Dt q1wt:=(Dt.ret (v.1,(0:Int),([]:List Diii)))
theorem q1ww C v:q34z (regO (qea f14) 3) false [(4,(.box [.any,.own Riii])),(5,.any)] q1wq q1wv q1wu C v:=rgI (by kernel_rfl)
def q1wx (C:q1wc) (v:q1wp):Dt q1wt:=(Dt.bnd (C.2.1 ((v.2.2.1,()),(v.2.2.2.1,v.2.2.2.2.1,()),())) fun r1=>(Dt.ret ((0:Int),r1.1,r1.2)))
theorem q1wy C v:q34z (regO (qea f14) 4) false [(4,(.box [.any,.own Riii])),(5,.any)] q1wq q1wx q1wu C v:=rgI (by kernel_rfl)
def q1wz (d:Nat) (x:q1w8):Option q1w9 :=
 (q1wj (q1wd d) (x.1.1,x.2.1.1,x.2.1.2.1)).eval fun y0 =>
 (q1wn (q1wd d) y0).eval fun y1 =>
 (q1wr (q1wd d) y1).eval fun y2 =>
 bif y2.2.1 then ((q1wv (q1wd d) y2).eval fun y3 =>
 some (y3.2.1,y3.2.2,y3.1)) else ((q1wx (q1wd d) y2).eval fun y4 =>
 some (y4.2.1,y4.2.2,y4.1))
theorem q1x0 (d:Nat):COK prog (q1wb (q1wz d)):=by
 have hm:prog.follows .mixedOrders=true:=mixed
 have hT:=tys
 have hC0:OrcOK prog (orc (q1we (q1wd d))):=qe4 (by
  intro S hS
  simp only [q1we,List.mem_cons,List.not_mem_nil,or_false] at hS
  rcases hS with rfl | rfl
  · exact qus d
  · exact q1w6 d)
 have hC:OrcOK prog (orc (q1we (q1wd d))):=hC0
 refine q9t (c:=qea f14) (fn:=f14) hT (by kernel_rfl) (by kernel_rfl) (by decide) fun x r h w0 φ0 Q hend=>?_
 replace h:q1wz d x=some r:=h
 unfold q1wz at h
 show Run prog w0 φ0 17 (qea f14) ⟨[(0,.agg [.fz Riii x.1.1]),(1,.agg [.int .i64 x.2.1.1,.int .i64 x.2.1.2.1])],[]⟩ Q
 refine q344 hm hT hC (q1wk (q1wd d) (x.1.1,x.2.1.1,x.2.1.2.1)) h fun y0 h=>?_
 refine q9d ?_
 refine q344 hm hT hC (q1wo (q1wd d) y0) h fun y1 h=>?_
 refine q344 hm hT hC (q1ws (q1wd d) y1) h fun y2 h=>?_
 refine q9h (v:=y2.2.1) (by kernel_rfl) h ?_ ?_
 ·
  intro h
  refine q344 hm hT hC (q1ww (q1wd d) y2) h fun y3 h=>?_
  refine q9c (q91 ?_)
  cases h
  exact (hend _ (by kernel_rfl)).2
 ·
  intro h
  refine q99 (q8z ?_)
  refine q344 hm hT hC (q1wy (q1wd d) y2) h fun y4 h=>?_
  refine q9c ?_
  cases h
  exact (hend _ (by kernel_rfl)).2
abbrev q1x1:List Pk:=[.row qkv true,.row qks true,.row Rii true]
abbrev q1x2:Type:=qkw×qkt×Dii×Unit
abbrev q1x3:Type:=Bool×Int
def q1x4 (r:q1x3):LV×List Ob:=(.tup [.bool r.1,.int .i64 r.2],[])
def q1x5 (F:q1x2→Option q1x3):Go.Tx.Spec:=⟨18,q1x1,q1x3,F,q1x4⟩
abbrev q1x6:Type:=(q1mr→Option q1ms)×(quk→Option qul)×(q1v3→Option q1v4)×(q1jz→Option q1k0)×Unit
def q1x7 (d:Nat):q1x6:=(q1ow d,quq d,q1w5 d,q1kg d,())
def q1x8 (C:q1x6):List Go.Tx.Spec:=[q1mu C.1,qun C.2.1,q1v6 C.2.2.1,q1k2 C.2.2.2.1]
abbrev q1x9:Type:=Int×List Diii×List Diii×Int×Int
def q1xa (v:q1x9):St:=⟨[(0,.agg [i6 v.1,.fz Riii v.2.1]),(1,.agg [.fz Riii v.2.2.1]),(2,.agg [i6 v.2.2.2.1,i6 v.2.2.2.2])],[]⟩
abbrev q1xb:Type:=Int×List Diii×List Diii×Int×Int
def q1xc (v:q1xb):St:=⟨[(3,.ptr 0 0),(4,.ptr 1 0),(5,.ptr 2 0)],[.cells [i6 v.1,.fz Riii v.2.1],.cells [.fz Riii v.2.2.1],.cells [i6 v.2.2.2.1,i6 v.2.2.2.2]]⟩
def q1xd (C:q1x6) (v:q1x9):Dt q1xb:=(Dt.ret (v.1,v.2.1,v.2.2.1,v.2.2.2.1,v.2.2.2.2))
abbrev q350 {V Y:Type}:=@rg q1x6 V Y tysT (fun C=>(orc (q1x8 C))) 26
theorem q1xe C v:q350 (regO (qea f18) 0) false [(3,(.box [.any,.val Riii])),(4,(.box [.val Riii])),(5,.any)] q1xa q1xd q1xc C v:=rgI (by kernel_rfl)
abbrev q1xf:Type:=Int×Int×List Diii×List Diii×Int×Int
def q1xg (v:q1xf):St:=⟨[(3,.ptr 0 0),(4,.ptr 1 0),(5,.ptr 2 0),(8,i6 v.1)],[.cells [i6 v.2.1,.fz Riii v.2.2.1],.cells [.fz Riii v.2.2.2.1],.cells [i6 v.2.2.2.2.1,i6 v.2.2.2.2.2]]⟩
def q1xh (C:q1x6) (v:q1xb):Dt q1xf:=(Dt.bnd (C.1 ((v.1,v.2.1,()),())) fun r1=>(Dt.ret (r1,v.1,v.2.1,v.2.2.1,v.2.2.2.1,v.2.2.2.2)))
theorem q1xi C v:q350 (regO (qea f18) 1) false [(3,(.box [.any,.val Riii])),(4,(.box [.val Riii])),(5,.any),(8,.any)] q1xc q1xh q1xg C v:=rgI (by kernel_rfl)
abbrev q1xj:Type:=Int×Bool×Int×List Diii×List Diii×Int×Int
def q1xk (v:q1xj):St:=⟨[(3,.ptr 0 0),(4,.ptr 1 0),(5,.ptr 2 0),(8,i6 v.1),(13,.bool v.2.1)],[.cells [i6 v.2.2.1,.fz Riii v.2.2.2.1],.cells [.fz Riii v.2.2.2.2.1],.cells [i6 v.2.2.2.2.2.1,i6 v.2.2.2.2.2.2]]⟩
def q1xl (C:q1x6) (v:q1xf):Dt q1xj:=(Dt.ret (v.1,(v.1 != (0:Int)),v.2.1,v.2.2.1,v.2.2.2.1,v.2.2.2.2.1,v.2.2.2.2.2))
theorem q1xm C v:q350 (regO (qea f18) 2) false [(3,(.box [.any,.val Riii])),(4,(.box [.val Riii])),(5,.any),(8,.any),(13,.any)] q1xg q1xl q1xk C v:=rgI (by kernel_rfl)
abbrev q1xn:Type:=Bool×Int
def q1xo (v:q1xn):St:=⟨[(6,.bool v.1),(7,i6 v.2)],[]⟩
def q1xp (C:q1x6) (v:q1xj):Dt q1xn:=(Dt.ret (false,v.1))
theorem q1xq C v:q350 (regO (qea f18) 3) false (an [6,7]) q1xk q1xp q1xo C v:=rgI (by kernel_rfl)
abbrev q1xr:Type:=Int×Int×List Diii×List Diii×Int×Int
def q1xs (v:q1xr):St:=⟨[(3,.ptr 0 0),(4,.ptr 1 0),(5,.ptr 2 0),(9,i6 v.1)],[.cells [i6 v.2.1,.fz Riii v.2.2.1],.cells [.fz Riii v.2.2.2.1],.cells [i6 v.2.2.2.2.1,i6 v.2.2.2.2.2]]⟩
def q1xt (C:q1x6) (v:q1xj):Dt q1xr:=(Dt.bnd (C.2.1 ((v.2.2.2.2.1,()),(v.2.2.2.2.2.1,v.2.2.2.2.2.2,()),())) fun r1=>(Dt.ret (r1,v.2.2.1,v.2.2.2.1,v.2.2.2.2.1,v.2.2.2.2.2.1,v.2.2.2.2.2.2)))
theorem q1xu C v:q350 (regO (qea f18) 4) false [(3,(.box [.any,.val Riii])),(4,(.box [.val Riii])),(5,.any),(9,.any)] q1xk q1xt q1xs C v:=rgI (by kernel_rfl)
abbrev q1xv:Type:=Int×Bool×Int×List Diii×List Diii×Int×Int
def q1xw (v:q1xv):St:=⟨[(3,.ptr 0 0),(4,.ptr 1 0),(5,.ptr 2 0),(9,i6 v.1),(19,.bool v.2.1)],[.cells [i6 v.2.2.1,.fz Riii v.2.2.2.1],.cells [.fz Riii v.2.2.2.2.1],.cells [i6 v.2.2.2.2.2.1,i6 v.2.2.2.2.2.2]]⟩
def q1xx (C:q1x6) (v:q1xr):Dt q1xv:=(Dt.ret (v.1,(v.1 != (0:Int)),v.2.1,v.2.2.1,v.2.2.2.1,v.2.2.2.2.1,v.2.2.2.2.2))
theorem q1xy C v:q350 (regO (qea f18) 5) false [(3,(.box [.any,.val Riii])),(4,(.box [.val Riii])),(5,.any),(9,.any),(19,.any)] q1xs q1xx q1xw C v:=rgI (by kernel_rfl)
def q1xz (C:q1x6) (v:q1xv):Dt q1xn:=(Dt.ret (false,v.1))
theorem q1y0 C v:q350 (regO (qea f18) 6) false (an [6,7]) q1xw q1xz q1xo C v:=rgI (by kernel_rfl)
def q1y1 (C:q1x6) (v:q1xv):Dt q1xn:=(Dt.bnd (C.2.2.1 ((v.2.2.2.2.1,()),(v.2.2.2.2.2.1,v.2.2.2.2.2.2,()),())) fun r1=>(Dt.bnd (C.2.2.2.1 ((v.2.2.1,v.2.2.2.1,()),(r1.1,r1.2,()),())) fun r2=>(Dt.ret (r2,(0:Int)))))
theorem q1y2 C v:q350 (regO (qea f18) 7) true (an [6,7]) q1xw q1y1 q1xo C v:=rgI (by kernel_rfl)
def q1y3 (d:Nat) (x:q1x2):Option q1x3 :=
 (q1xd (q1x7 d) (x.1.1,x.1.2.1,x.2.1.1,x.2.2.1.1,x.2.2.1.2.1)).eval fun y0 =>
 (q1xh (q1x7 d) y0).eval fun y1 =>
 (q1xl (q1x7 d) y1).eval fun y2 =>
 bif y2.2.1 then ((q1xp (q1x7 d) y2).eval fun y3 =>
 some y3) else ((q1xt (q1x7 d) y2).eval fun y4 =>
 (q1xx (q1x7 d) y4).eval fun y5 =>
 bif y5.2.1 then ((q1xz (q1x7 d) y5).eval fun y6 =>
 some y6) else ((q1y1 (q1x7 d) y5).eval fun y7 =>
 some y7))
theorem q1y4 (d:Nat):COK prog (q1x5 (q1y3 d)):=by
 have hm:prog.follows .mixedOrders=true:=mixed
 have hT:=tys
 have hC0:OrcOK prog (orc (q1x8 (q1x7 d))):=qe4 (by
  intro S hS
  simp only [q1x8,List.mem_cons,List.not_mem_nil,or_false] at hS
  rcases hS with rfl | rfl | rfl | rfl
  · exact q1ox d
  · exact qus d
  · exact q1w6 d
  · exact q1kh d)
 have hC:OrcOK prog (orc (q1x8 (q1x7 d))):=hC0
 refine q9t (c:=qea f18) (fn:=f18) hT (by kernel_rfl) (by kernel_rfl) (by decide) fun x r h w0 φ0 Q hend=>?_
 replace h:q1y3 d x=some r:=h
 unfold q1y3 at h
 show Run prog w0 φ0 26 (qea f18) ⟨[(0,.agg [.int .i64 x.1.1,.fz Riii x.1.2.1]),(1,.agg [.fz Riii x.2.1.1]),(2,.agg [.int .i64 x.2.2.1.1,.int .i64 x.2.2.1.2.1])],[]⟩ Q
 refine q344 hm hT hC (q1xe (q1x7 d) (x.1.1,x.1.2.1,x.2.1.1,x.2.2.1.1,x.2.2.1.2.1)) h fun y0 h=>?_
 refine q9d ?_
 refine q344 hm hT hC (q1xi (q1x7 d) y0) h fun y1 h=>?_
 refine q344 hm hT hC (q1xm (q1x7 d) y1) h fun y2 h=>?_
 refine q9h (v:=y2.2.1) (by kernel_rfl) h ?_ ?_
 ·
  intro h
  refine q344 hm hT hC (q1xq (q1x7 d) y2) h fun y3 h=>?_
  refine q9c (q91 ?_)
  cases h
  exact (hend _ (by kernel_rfl)).2
 ·
  intro h
  refine q99 (q8z (q9d ?_))
  refine q344 hm hT hC (q1xu (q1x7 d) y2) h fun y4 h=>?_
  refine q344 hm hT hC (q1xy (q1x7 d) y4) h fun y5 h=>?_
  refine q9h (v:=y5.2.1) (by kernel_rfl) h ?_ ?_
  ·
   intro h
   refine q344 hm hT hC (q1y0 (q1x7 d) y5) h fun y6 h=>?_
   refine q9c (q91 ?_)
   cases h
   exact (hend _ (by kernel_rfl)).2
  ·
   intro h
   refine q99 (q8z ?_)
   refine q344 hm hT hC (q1y2 (q1x7 d) y5) h fun y7 h=>?_
   refine q9c ?_
   cases h
   exact (hend _ (by kernel_rfl)).2
end Go.Proofs.Ytoakhncbmpdacaa

namespace Go.Tx
open Go
section
variable {P:Program} {T:Tys} {C:Orc} {w0:World} {φ0:Fz0} {N:Nat} {Q:Exit→Act→World→Prop}
end
end Go.Tx
