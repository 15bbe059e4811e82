/- Walks of the references; the orders agree; examples. -/
import Derived.Lib.SliceRun
import Derived.Test.YtoakhncbmpdacaaGe
set_option linter.unusedSimpArgs false
set_option linter.unusedVariables false
namespace Go.Proofs.Ytoakhncbmpdacaa
open Go Go.Tx Go.Proofs.Try
set_option maxRecDepth 100000
set_option maxHeartbeats 0
abbrev q1kp:List Pk:=[.row qkv true,.row Ri false]
abbrev q1kq:List Pk:=[]
abbrev q1kr:Type:=(qkw×Di×Unit)×(Unit)×List Di
abbrev q1ks:Type:=List Di
def q1kt (F:q1kr→Option q1ks):CSpec:=⟨78,q1kp,q1kq,Ri,fun a b c=>F (a,b,c)⟩
abbrev q1ku:Type:=(q1kr→Option q1ks)×Unit
def q1kv (d:Nat) (me:(q1kr→Option q1ks)):q1ku:=(me,())
def q1kw (C:q1ku):List Go.Tx.Spec:=[]
abbrev q1kx:Type:=Int×List Diii×Int×List Di
def q1ky (v:q1kx):St:=⟨[(0,.agg [i6 v.1,.fz Riii v.2.1]),(1,i6 v.2.2.1),(2,.rs 0)],[.rows Ri v.2.2.2]⟩
abbrev q1kz:Type:=Int×List Di×Int×List Diii
def q1l0 (v:q1kz):St:=⟨[(1,i6 v.1),(2,.rs 0),(3,.ptr 1 0)],[.rows Ri v.2.1,.cells [i6 v.2.2.1,.fz Riii v.2.2.2]]⟩
def q1l1 (C:q1ku) (v:q1kx):Dt q1kz:=(Dt.ret (v.2.2.1,v.2.2.2,v.1,v.2.1))
abbrev q34p {V Y:Type}:=@rg q1ku V Y tysT (fun C=>(orcC (q1kt C.1) (orc (q1kw C)))) 40
theorem q1l2 C v:q34p (regO (qea f78) 0) false [(1,.any),(2,(.own Ri)),(3,(.box [.any,.val Riii]))] q1ky q1l1 q1l0 C v:=rgI (by kernel_rfl)
abbrev q1l3:Type:=Int×Bool×List Di×Int×List Diii
def q1l4 (v:q1l3):St:=⟨[(1,i6 v.1),(2,.rs 0),(3,.ptr 1 0),(16,.bool v.2.1)],[.rows Ri v.2.2.1,.cells [i6 v.2.2.2.1,.fz Riii v.2.2.2.2]]⟩
def q1l5 (C:q1ku) (v:q1kz):Dt q1l3:=(Dt.ite (decide (v.1<(0:Int))) (Dt.ret (v.1,true,v.2.1,v.2.2.1,v.2.2.2)) (Dt.ret (v.1,(decide ((List.length v.2.1:Int) > (List.length v.2.2.2:Int))),v.2.1,v.2.2.1,v.2.2.2)))
theorem q1l6 C v:q34p (regO (qea f78) 1) false [(1,.any),(2,(.own Ri)),(3,(.box [.any,.val Riii])),(16,.any)] q1l0 q1l5 q1l4 C v:=rgI (by kernel_rfl)
abbrev q1l7:Type:=List Di
def q1l8 (v:q1l7):St:=⟨[(6,.rs 0)],[.rows Ri v]⟩
def q1l9 (C:q1ku) (v:q1l3):Dt q1l7:=(Dt.ret v.2.2.1)
theorem q1la C v:q34p (regO (qea f78) 2) false [(6,(.own Ri))] q1l4 q1l9 q1l8 C v:=rgI (by kernel_rfl)
def q1lb (C:q1ku) (v:q1l3):Dt q1kz:=(Dt.ite (inB v.1 (List.length v.2.2.2.2)) (Dt.bnd (C.1 (((v.2.2.2.1,v.2.2.2.2,()),((elt ziii v.2.2.2.2 (v.1).toNat).2.1,()),()),(()),v.2.2.1)) fun r1=>(Dt.ret (v.1,r1,v.2.2.2.1,v.2.2.2.2))) Dt.fail)
theorem q1lc C v:q34p (regO (qea f78) 3) true [(1,.any),(2,(.own Ri)),(3,(.box [.any,.val Riii]))] q1l4 q1lb q1l0 C v:=rgI (by kernel_rfl)
def q1ld (C:q1ku) (v:q1kz):Dt q1kz:=(Dt.ite (apB (List.length v.2.1) (List.length ([(v.1,())]:List Di))) (Dt.ret (v.1,(v.2.1++([(v.1,())]:List Di)),v.2.2.1,v.2.2.2)) Dt.fail)
theorem q1le C v:q34p (regO (qea f78) 4) false [(1,.any),(2,(.own Ri)),(3,(.box [.any,.val Riii]))] q1l0 q1ld q1l0 C v:=rgI (by kernel_rfl)
def q1lf (C:q1ku) (v:q1kz):Dt q1l7:=(Dt.ite (inB v.1 (List.length v.2.2.2)) (Dt.bnd (C.1 (((v.2.2.1,v.2.2.2,()),((elt ziii v.2.2.2 (v.1).toNat).2.2.1,()),()),(()),v.2.1)) fun r1=>(Dt.ret r1)) Dt.fail)
theorem q1lg C v:q34p (regO (qea f78) 5) true [(6,(.own Ri))] q1l0 q1lf q1l8 C v:=rgI (by kernel_rfl)
def q1lh (d:Nat) (me:(q1kr→Option q1ks)) (x:q1kr):Option q1ks :=
 (q1l1 (q1kv d me) (x.1.1.1,x.1.1.2.1,x.1.2.1.1,x.2.2)).eval fun y0 =>
 (q1l5 (q1kv d me) y0).eval fun y1 =>
 bif y1.2.1 then ((q1l9 (q1kv d me) y1).eval fun y2 =>
 some y2) else ((q1lb (q1kv d me) y1).eval fun y3 =>
 (q1ld (q1kv d me) y3).eval fun y4 =>
 (q1lf (q1kv d me) y4).eval fun y5 =>
 some y5)
theorem q1li (d:Nat) (me:(q1kr→Option q1ks)) (hme:COKC prog (q1kt me)):COKC prog (q1kt (q1lh d me)):=by
 have hm:prog.follows .mixedOrders=true:=mixed
 have hT:=tys
 have hC0:OrcOK prog (orc (q1kw (q1kv d me))):=qe4 (by
  intro S hS
  simp only [q1kw,List.mem_cons,List.not_mem_nil,or_false] at hS
  all_goals first | cases hS | exact hS.elim)
 have hC:OrcOK prog (orcC (q1kt (q1kv d me).1) (orc (q1kw (q1kv d me)))):=(q1km hme rfl hC0)
 refine q1ko (c:=qea f78) (fn:=f78) hT (by kernel_rfl) (by kernel_rfl) (by decide) fun x r h w0 φ0 Q hend=>?_
 replace h:q1lh d me x=some r:=h
 unfold q1lh at h
 show Run prog w0 φ0 40 (qea f78) ⟨[(0,.agg [.int .i64 x.1.1.1,.fz Riii x.1.1.2.1]),(1,.int .i64 x.1.2.1.1),(2,.rs 0)],[.rows Ri x.2.2]⟩ Q
 refine q344 hm hT hC (q1l2 (q1kv d me) (x.1.1.1,x.1.1.2.1,x.1.2.1.1,x.2.2)) h fun y0 h=>?_
 refine q9d ?_
 refine q344 hm hT hC (q1l6 (q1kv d me) y0) h fun y1 h=>?_
 refine q9h (v:=y1.2.1) (by kernel_rfl) h ?_ ?_
 ·
  intro h
  refine q344 hm hT hC (q1la (q1kv d me) y1) h fun y2 h=>?_
  refine q9c (q91 ?_)
  cases h
  exact (hend _ (by kernel_rfl)).2
 ·
  intro h
  refine q99 (q8z ?_)
  refine q344 hm hT hC (q1lc (q1kv d me) y1) h fun y3 h=>?_
  refine q344 hm hT hC (q1le (q1kv d me) y3) h fun y4 h=>?_
  refine q344 hm hT hC (q1lg (q1kv d me) y4) h fun y5 h=>?_
  refine q9c ?_
  cases h
  exact (hend _ (by kernel_rfl)).2
def q1lj (d:Nat):Nat→q1kr→Option q1ks
 | 0,_=>none
 | k+1,x=>q1lh d (q1lj d k) x
def q1lk (d:Nat) (x:q1kr):Option q1ks:=q1lj d d x
theorem q1ll (d:Nat):COKC prog (q1kt (q1lk d)):=by
 have key:∀ k,COKC prog (q1kt (q1lj d k)):=fun k=>by
  induction k with
  | zero=>exact ⟨fun x1 x2 xs ys h=>(by cases (show (none:Option q1ks)=some ys from h)),⟨f78,qea f78,by kernel_rfl,by kernel_rfl,by decide⟩⟩
  | succ k ih=>exact q1li d _ ih
 exact key d
abbrev q1lm:List Pk:=[.row qkv true]
abbrev q1ln:Type:=qkw×Unit
abbrev q1lo:Type:=Bool
def q1lp (r:q1lo):LV×List Ob:=(.bool r,[])
def q1lq (F:q1ln→Option q1lo):Go.Tx.Spec:=⟨58,q1lm,q1lo,F,q1lp⟩
abbrev q1lr:Type:=(q1kr→Option q1ks)×Unit
def q1ls (d:Nat):q1lr:=(q1lk d,())
def q1lt (C:q1lr):List Go.Tx.Spec:=[]
abbrev q1lu:Type:=Int×List Diii
def q1lv (v:q1lu):St:=⟨[(0,.agg [i6 v.1,.fz Riii v.2])],[]⟩
abbrev q1lw:Type:=Int×List Diii
def q1lx (v:q1lw):St:=⟨[(1,.ptr 0 0)],[.cells [i6 v.1,.fz Riii v.2]]⟩
def q1ly (C:q1lr) (v:q1lu):Dt q1lw:=(Dt.ret (v.1,v.2))
abbrev q34q {V Y:Type}:=@rg q1lr V Y tysT (fun C=>(orcC (q1kt C.1) (orc (q1lt C)))) 12
theorem q1lz C v:q34q (regO (qea f58) 0) false [(1,(.box [.any,.val Riii]))] q1lv q1ly q1lx C v:=rgI (by kernel_rfl)
abbrev q1m0:Type:=Bool
def q1m1 (v:q1m0):St:=⟨[(2,.bool v)],[]⟩
def q1m2 (C:q1lr) (v:q1lw):Dt q1m0:=(Dt.bnd (C.1 (((v.1,v.2,()),(v.1,()),()),(()),([]:List Di))) fun r1=>(Dt.ret ((List.length r1:Int) == (List.length v.2:Int))))
theorem q1m3 C v:q34q (regO (qea f58) 1) true [(2,.any)] q1lx q1m2 q1m1 C v:=rgI (by kernel_rfl)
def q1m4 (d:Nat) (x:q1ln):Option q1lo :=
 (q1ly (q1ls d) (x.1.1,x.1.2.1)).eval fun y0 =>
 (q1m2 (q1ls d) y0).eval fun y1 =>
 some y1
theorem q1m5 (d:Nat):COK prog (q1lq (q1m4 d)):=by
 have hm:prog.follows .mixedOrders=true:=mixed
 have hT:=tys
 have hC0:OrcOK prog (orc (q1lt (q1ls d))):=qe4 (by
  intro S hS
  simp only [q1lt,List.mem_cons,List.not_mem_nil,or_false] at hS
  all_goals first | cases hS | exact hS.elim)
 have hC:OrcOK prog (orcC (q1kt (q1ls d).1) (orc (q1lt (q1ls d)))):=(q1km (q1ll d) rfl hC0)
 refine q9t (c:=qea f58) (fn:=f58) hT (by kernel_rfl) (by kernel_rfl) (by decide) fun x r h w0 φ0 Q hend=>?_
 replace h:q1m4 d x=some r:=h
 unfold q1m4 at h
 show Run prog w0 φ0 12 (qea f58) ⟨[(0,.agg [.int .i64 x.1.1,.fz Riii x.1.2.1])],[]⟩ Q
 refine q344 hm hT hC (q1lz (q1ls d) (x.1.1,x.1.2.1)) h fun y0 h=>?_
 refine q344 hm hT hC (q1m3 (q1ls d) y0) h fun y1 h=>?_
 refine q9c ?_
 cases h
 exact (hend _ (by kernel_rfl)).2
abbrev q1m6:List Pk:=[.row qkv true]
abbrev q1m7:Type:=qkw×Unit
abbrev q1m8:Type:=List Di
def q1m9 (r:q1m8):LV×List Ob:=(.rs 0,[.rows Ri r])
def q1ma (F:q1m7→Option q1m8):Go.Tx.Spec:=⟨59,q1m6,q1m8,F,q1m9⟩
abbrev q1mb:Type:=(q1kr→Option q1ks)×Unit
def q1mc (d:Nat):q1mb:=(q1lk d,())
def q1md (C:q1mb):List Go.Tx.Spec:=[]
abbrev q1me:Type:=Int×List Diii
def q1mf (v:q1me):St:=⟨[(0,.agg [i6 v.1,.fz Riii v.2])],[]⟩
abbrev q1mg:Type:=Int×List Diii
def q1mh (v:q1mg):St:=⟨[(1,.ptr 0 0)],[.cells [i6 v.1,.fz Riii v.2]]⟩
def q1mi (C:q1mb) (v:q1me):Dt q1mg:=(Dt.ret (v.1,v.2))
abbrev q34r {V Y:Type}:=@rg q1mb V Y tysT (fun C=>(orcC (q1kt C.1) (orc (q1md C)))) 7
theorem q1mj C v:q34r (regO (qea f59) 0) false [(1,(.box [.any,.val Riii]))] q1mf q1mi q1mh C v:=rgI (by kernel_rfl)
abbrev q1mk:Type:=List Di
def q1ml (v:q1mk):St:=⟨[(2,.rs 0)],[.rows Ri v]⟩
def q1mm (C:q1mb) (v:q1mg):Dt q1mk:=(Dt.bnd (C.1 (((v.1,v.2,()),(v.1,()),()),(()),([]:List Di))) fun r1=>(Dt.ret r1))
theorem q1mn C v:q34r (regO (qea f59) 1) false [(2,(.own Ri))] q1mh q1mm q1ml C v:=rgI (by kernel_rfl)
def q1mo (d:Nat) (x:q1m7):Option q1m8 :=
 (q1mi (q1mc d) (x.1.1,x.1.2.1)).eval fun y0 =>
 (q1mm (q1mc d) y0).eval fun y1 =>
 some y1
theorem q1mp (d:Nat):COK prog (q1ma (q1mo d)):=by
 have hm:prog.follows .mixedOrders=true:=mixed
 have hT:=tys
 have hC0:OrcOK prog (orc (q1md (q1mc d))):=qe4 (by
  intro S hS
  simp only [q1md,List.mem_cons,List.not_mem_nil,or_false] at hS
  all_goals first | cases hS | exact hS.elim)
 have hC:OrcOK prog (orcC (q1kt (q1mc d).1) (orc (q1md (q1mc d)))):=(q1km (q1ll d) rfl hC0)
 refine q9t (c:=qea f59) (fn:=f59) hT (by kernel_rfl) (by kernel_rfl) (by decide) fun x r h w0 φ0 Q hend=>?_
 replace h:q1mo d x=some r:=h
 unfold q1mo at h
 show Run prog w0 φ0 7 (qea f59) ⟨[(0,.agg [.int .i64 x.1.1,.fz Riii x.1.2.1])],[]⟩ Q
 refine q344 hm hT hC (q1mj (q1mc d) (x.1.1,x.1.2.1)) h fun y0 h=>?_
 refine q344 hm hT hC (q1mn (q1mc d) y0) h fun y1 h=>?_
 refine q9c ?_
 cases h
 exact (hend _ (by kernel_rfl)).2
abbrev q1mq:List Pk:=[.row qkv true]
abbrev q1mr:Type:=qkw×Unit
abbrev q1ms:Type:=Int
def q1mt (r:q1ms):LV×List Ob:=(.int .i64 r,[])
def q1mu (F:q1mr→Option q1ms):Go.Tx.Spec:=⟨25,q1mq,q1ms,F,q1mt⟩
abbrev q1mv:Type:=(q1d1→Option q1d2)×(q1dl→Option q1dm)×(q1ln→Option q1lo)×(q1m7→Option q1m8)×Unit
def q1mw (d:Nat):q1mv:=(q1di d,q1fk d,q1m4 d,q1mo d,())
def q1mx (C:q1mv):List Go.Tx.Spec:=[q1d4 C.1,q1do C.2.1,q1lq C.2.2.1,q1ma C.2.2.2.1]
abbrev q1my:Type:=Int×List Diii
def q1mz (v:q1my):St:=⟨[(0,.agg [i6 v.1,.fz Riii v.2])],[]⟩
abbrev q1n0:Type:=Int×List Diii
def q1n1 (v:q1n0):St:=⟨[(1,.ptr 0 0)],[.cells [i6 v.1,.fz Riii v.2]]⟩
def q1n2 (C:q1mv) (v:q1my):Dt q1n0:=(Dt.ret (v.1,v.2))
abbrev q34s {V Y:Type}:=@rg q1mv V Y tysT (fun C=>(orc (q1mx C))) 96
theorem q1n3 C v:q34s (regO (qea f25) 0) false [(1,(.box [.any,.val Riii]))] q1mz q1n2 q1n1 C v:=rgI (by kernel_rfl)
abbrev q1n4:Type:=Bool×Int×List Diii
def q1n5 (v:q1n4):St:=⟨[(1,.ptr 0 0),(10,.bool v.1)],[.cells [i6 v.2.1,.fz Riii v.2.2]]⟩
def q1n6 (C:q1mv) (v:q1n0):Dt q1n4:=(Dt.ret ((decide ((List.length v.2:Int) > (64:Int))),v.1,v.2))
theorem q1n7 C v:q34s (regO (qea f25) 1) false [(1,(.box [.any,.val Riii])),(10,.any)] q1n1 q1n6 q1n5 C v:=rgI (by kernel_rfl)
abbrev q1n8:Type:=Int
def q1n9 (v:q1n8):St:=⟨[(2,i6 v)],[]⟩
def q1na (C:q1mv) (v:q1n4):Dt q1n8:=(Dt.ret (4:Int))
theorem q1nb C v:q34s (regO (qea f25) 2) false [(2,.any)] q1n5 q1na q1n9 C v:=rgI (by kernel_rfl)
abbrev q1nc:Type:=Bool×Int×List Diii
def q1nd (v:q1nc):St:=⟨[(1,.ptr 0 0),(25,.bool v.1)],[.cells [i6 v.2.1,.fz Riii v.2.2]]⟩
def q1ne (C:q1mv) (v:q1n4):Dt q1nc:=(Dt.bnd (C.1 ((v.2.1,v.2.2,()),(v.2.1,()),())) fun r1=>(Dt.ite (!r1) (Dt.ret (true,v.2.1,v.2.2)) (Dt.ret ((!((v.2.1 == (-1:Int)) == ((List.length v.2.2:Int) == (0:Int)))),v.2.1,v.2.2))))
theorem q1nf C v:q34s (regO (qea f25) 3) false [(1,(.box [.any,.val Riii])),(25,.any)] q1n5 q1ne q1nd C v:=rgI (by kernel_rfl)
def q1ng (C:q1mv) (v:q1nc):Dt q1n8:=(Dt.ret (8:Int))
theorem q1nh C v:q34s (regO (qea f25) 4) false [(2,.any)] q1nd q1ng q1n9 C v:=rgI (by kernel_rfl)
abbrev q1ni:Type:=Int×Int×List Diii
def q1nj (v:q1ni):St:=⟨[(1,.ptr 0 0),(3,i6 v.1)],[.cells [i6 v.2.1,.fz Riii v.2.2]]⟩
def q1nk (C:q1mv) (v:q1nc):Dt q1ni:=(Dt.ret ((0:Int),v.2.1,v.2.2))
theorem q1nl C v:q34s (regO (qea f25) 5) false [(1,(.box [.any,.val Riii])),(3,.any)] q1nd q1nk q1nj C v:=rgI (by kernel_rfl)
abbrev q1nm:Type:=Int×Bool×Int×List Diii
def q1nn (v:q1nm):St:=⟨[(1,.ptr 0 0),(3,i6 v.1),(30,.bool v.2.1)],[.cells [i6 v.2.2.1,.fz Riii v.2.2.2]]⟩
def q1no (C:q1mv) (v:q1ni):Dt q1nm:=(Dt.ret (v.1,(decide (v.1<(List.length v.2.2:Int))),v.2.1,v.2.2))
theorem q1np C v:q34s (regO (qea f25) 6) false [(1,(.box [.any,.val Riii])),(3,.any),(30,.any)] q1nj q1no q1nn C v:=rgI (by kernel_rfl)
abbrev q1nq:Type:=Int×Int×List Diii×Int×Int×Int
def q1nr (v:q1nq):St:=⟨[(1,.ptr 0 0),(3,i6 v.1),(4,.ptr 1 0)],[.cells [i6 v.2.1,.fz Riii v.2.2.1],.cells [i6 v.2.2.2.1,i6 v.2.2.2.2.1,i6 v.2.2.2.2.2]]⟩
def q1ns (C:q1mv) (v:q1nm):Dt q1nq:=(Dt.ite (inB v.1 (List.length v.2.2.2)) (Dt.ret (v.1,v.2.2.1,v.2.2.2,(elt ziii v.2.2.2 (v.1).toNat).1,(elt ziii v.2.2.2 (v.1).toNat).2.1,(elt ziii v.2.2.2 (v.1).toNat).2.2.1)) Dt.fail)
theorem q1nt C v:q34s (regO (qea f25) 8) false [(1,(.box [.any,.val Riii])),(3,.any),(4,.any)] q1nn q1ns q1nr C v:=rgI (by kernel_rfl)
abbrev q1nu:Type:=Int×Bool×Int×List Diii
def q1nv (v:q1nu):St:=⟨[(1,.ptr 0 0),(3,i6 v.1),(59,.bool v.2.1)],[.cells [i6 v.2.2.1,.fz Riii v.2.2.2]]⟩
def q1nw (C:q1mv) (v:q1nq):Dt q1nu:=(Dt.bnd (C.1 ((v.2.1,v.2.2.1,()),(v.2.2.2.2.1,()),())) fun r1=>(Dt.ite (!r1) (Dt.ret (v.1,true,v.2.1,v.2.2.1)) (Dt.bnd (C.1 ((v.2.1,v.2.2.1,()),(v.2.2.2.2.2,()),())) fun r2=>(Dt.ite (!r2) (Dt.ret (v.1,true,v.2.1,v.2.2.1)) (Dt.ite (decide (v.2.2.2.1<(0:Int))) (Dt.ret (v.1,true,v.2.1,v.2.2.1)) (Dt.ret (v.1,(decide (v.2.2.2.1 > (65535:Int))),v.2.1,v.2.2.1)))))))
theorem q1nx C v:q34s (regO (qea f25) 9) false [(1,(.box [.any,.val Riii])),(3,.any),(59,.any)] q1nr q1nw q1nv C v:=rgI (by kernel_rfl)
def q1ny (C:q1mv) (v:q1nu):Dt q1n8:=(Dt.ret (8:Int))
theorem q1nz C v:q34s (regO (qea f25) 10) false [(2,.any)] q1nv q1ny q1n9 C v:=rgI (by kernel_rfl)
def q1o0 (C:q1mv) (v:q1nu):Dt q1ni:=(Dt.ret ((IntKind.wrap .i64 (v.1+(1:Int))),v.2.2.1,v.2.2.2))
theorem q1o1 C v:q34s (regO (qea f25) 7) false [(1,(.box [.any,.val Riii])),(3,.any)] q1nv q1o0 q1nj C v:=rgI (by kernel_rfl)
abbrev q1o2:Type:=Bool×Int×List Diii
def q1o3 (v:q1o2):St:=⟨[(1,.ptr 0 0),(67,.bool v.1)],[.cells [i6 v.2.1,.fz Riii v.2.2]]⟩
def q1o4 (C:q1mv) (v:q1nm):Dt q1o2:=(Dt.bnd (C.2.1 ((v.2.2.1,v.2.2.2,()),())) fun r1=>(Dt.ite (!r1) (Dt.ret (true,v.2.2.1,v.2.2.2)) (Dt.bnd (C.2.2.1 ((v.2.2.1,v.2.2.2,()),())) fun r2=>(Dt.ret ((!r2),v.2.2.1,v.2.2.2)))))
theorem q1o5 C v:q34s (regO (qea f25) 11) false [(1,(.box [.any,.val Riii])),(67,.any)] q1nn q1o4 q1o3 C v:=rgI (by kernel_rfl)
def q1o6 (C:q1mv) (v:q1o2):Dt q1n8:=(Dt.ret (8:Int))
theorem q1o7 C v:q34s (regO (qea f25) 12) false [(2,.any)] q1o3 q1o6 q1n9 C v:=rgI (by kernel_rfl)
abbrev q1o8:Type:=Int×List Diii×List Di
def q1o9 (v:q1o8):St:=⟨[(1,.ptr 0 0),(5,.rs 1)],[.cells [i6 v.1,.fz Riii v.2.1],.rows Ri v.2.2]⟩
def q1oa (C:q1mv) (v:q1o2):Dt q1o8:=(Dt.bnd (C.2.2.2.1 ((v.2.1,v.2.2,()),())) fun r1=>(Dt.ret (v.2.1,v.2.2,r1)))
theorem q1ob C v:q34s (regO (qea f25) 13) false [(1,(.box [.any,.val Riii])),(5,(.own Ri))] q1o3 q1oa q1o9 C v:=rgI (by kernel_rfl)
abbrev q1oc:Type:=Int×Int×List Diii×List Di
def q1od (v:q1oc):St:=⟨[(1,.ptr 0 0),(5,.rs 1),(6,i6 v.1)],[.cells [i6 v.2.1,.fz Riii v.2.2.1],.rows Ri v.2.2.2]⟩
def q1oe (C:q1mv) (v:q1o8):Dt q1oc:=(Dt.ret ((1:Int),v.1,v.2.1,v.2.2))
theorem q1of C v:q34s (regO (qea f25) 14) false [(1,(.box [.any,.val Riii])),(5,(.own Ri)),(6,.any)] q1o9 q1oe q1od C v:=rgI (by kernel_rfl)
abbrev q1og:Type:=Int×Bool×Int×List Diii×List Di
def q1oh (v:q1og):St:=⟨[(1,.ptr 0 0),(5,.rs 1),(6,i6 v.1),(73,.bool v.2.1)],[.cells [i6 v.2.2.1,.fz Riii v.2.2.2.1],.rows Ri v.2.2.2.2]⟩
def q1oi (C:q1mv) (v:q1oc):Dt q1og:=(Dt.ret (v.1,(decide (v.1<(List.length v.2.2.2:Int))),v.2.1,v.2.2.1,v.2.2.2))
theorem q1oj C v:q34s (regO (qea f25) 15) false [(1,(.box [.any,.val Riii])),(5,(.own Ri)),(6,.any),(73,.any)] q1od q1oi q1oh C v:=rgI (by kernel_rfl)
abbrev q1ok:Type:=Int×Bool×Int×List Diii×List Di
def q1ol (v:q1ok):St:=⟨[(1,.ptr 0 0),(5,.rs 1),(6,i6 v.1),(95,.bool v.2.1)],[.cells [i6 v.2.2.1,.fz Riii v.2.2.2.1],.rows Ri v.2.2.2.2]⟩
def q1om (C:q1mv) (v:q1og):Dt q1ok:=(Dt.ite (inB (IntKind.wrap .i64 (v.1 - (1:Int))) (List.length v.2.2.2.2)) (Dt.ite (inB (elt zi v.2.2.2.2 ((IntKind.wrap .i64 (v.1 - (1:Int)))).toNat).1 (List.length v.2.2.2.1)) (Dt.ite (inB v.1 (List.length v.2.2.2.2)) (Dt.ite (inB (elt zi v.2.2.2.2 (v.1).toNat).1 (List.length v.2.2.2.1)) (Dt.ret (v.1,(decide ((elt ziii v.2.2.2.1 ((elt zi v.2.2.2.2 ((IntKind.wrap .i64 (v.1 - (1:Int)))).toNat).1).toNat).1≥(elt ziii v.2.2.2.1 ((elt zi v.2.2.2.2 (v.1).toNat).1).toNat).1)),v.2.2.1,v.2.2.2.1,v.2.2.2.2)) Dt.fail) Dt.fail) Dt.fail) Dt.fail)
theorem q1on C v:q34s (regO (qea f25) 17) true [(1,(.box [.any,.val Riii])),(5,(.own Ri)),(6,.any),(95,.any)] q1oh q1om q1ol C v:=rgI (by kernel_rfl)
def q1oo (C:q1mv) (v:q1ok):Dt q1n8:=(Dt.ret (8:Int))
theorem q1op C v:q34s (regO (qea f25) 18) false [(2,.any)] q1ol q1oo q1n9 C v:=rgI (by kernel_rfl)
def q1oq (C:q1mv) (v:q1ok):Dt q1oc:=(Dt.ret ((IntKind.wrap .i64 (v.1+(1:Int))),v.2.2.1,v.2.2.2.1,v.2.2.2.2))
theorem q1or C v:q34s (regO (qea f25) 16) false [(1,(.box [.any,.val Riii])),(5,(.own Ri)),(6,.any)] q1ol q1oq q1od C v:=rgI (by kernel_rfl)
def q1os (C:q1mv) (v:q1og):Dt q1n8:=(Dt.ret (0:Int))
theorem q1ot C v:q34s (regO (qea f25) 19) false [(2,.any)] q1oh q1os q1n9 C v:=rgI (by kernel_rfl)
def q1ou (d:Nat) (self2:(Int×Int×List Diii×List Di)→Option q1ms) (x2:Int×Int×List Diii×List Di):Option q1ms :=
 (q1oi (q1mw d) x2).eval fun y15 =>
 bif y15.2.1 then ((q1om (q1mw d) y15).eval fun y17 =>
 bif y17.2.1 then ((q1oo (q1mw d) y17).eval fun y18 =>
 some y18) else ((q1oq (q1mw d) y17).eval fun y16 =>
 self2 y16)) else ((q1os (q1mw d) y15).eval fun y19 =>
 some y19)
def q1ov (d:Nat) (self1:(Int×Int×List Diii)→Option q1ms) (x1:Int×Int×List Diii):Option q1ms :=
 (q1no (q1mw d) x1).eval fun y6 =>
 bif y6.2.1 then ((q1ns (q1mw d) y6).eval fun y8 =>
 (q1nw (q1mw d) y8).eval fun y9 =>
 bif y9.2.1 then ((q1ny (q1mw d) y9).eval fun y10 =>
 some y10) else ((q1o0 (q1mw d) y9).eval fun y7 =>
 self1 y7)) else ((q1o4 (q1mw d) y6).eval fun y11 =>
 bif y11.1 then ((q1o6 (q1mw d) y11).eval fun y12 =>
 some y12) else ((q1oa (q1mw d) y11).eval fun y13 =>
 (q1oe (q1mw d) y13).eval fun y14 =>
 iter (q1ou d ) d y14))
def q1ow (d:Nat) (x:q1mr):Option q1ms :=
 (q1n2 (q1mw d) (x.1.1,x.1.2.1)).eval fun y0 =>
 (q1n6 (q1mw d) y0).eval fun y1 =>
 bif y1.1 then ((q1na (q1mw d) y1).eval fun y2 =>
 some y2) else ((q1ne (q1mw d) y1).eval fun y3 =>
 bif y3.1 then ((q1ng (q1mw d) y3).eval fun y4 =>
 some y4) else ((q1nk (q1mw d) y3).eval fun y5 =>
 iter (q1ov d ) d y5))
theorem q1ox (d:Nat):COK prog (q1mu (q1ow d)):=by
 have hm:prog.follows .mixedOrders=true:=mixed
 have hT:=tys
 have hC0:OrcOK prog (orc (q1mx (q1mw d))):=qe4 (by
  intro S hS
  simp only [q1mx,List.mem_cons,List.not_mem_nil,or_false] at hS
  rcases hS with rfl | rfl | rfl | rfl
  · exact q1dj d
  · exact q1fl d
  · exact q1m5 d
  · exact q1mp d)
 have hC:OrcOK prog (orc (q1mx (q1mw d))):=hC0
 refine q9t (c:=qea f25) (fn:=f25) hT (by kernel_rfl) (by kernel_rfl) (by decide) fun x r h w0 φ0 Q hend=>?_
 replace h:q1ow d x=some r:=h
 unfold q1ow at h
 show Run prog w0 φ0 96 (qea f25) ⟨[(0,.agg [.int .i64 x.1.1,.fz Riii x.1.2.1])],[]⟩ Q
 refine q344 hm hT hC (q1n3 (q1mw d) (x.1.1,x.1.2.1)) h fun y0 h=>?_
 refine q9d ?_
 refine q344 hm hT hC (q1n7 (q1mw d) y0) h fun y1 h=>?_
 refine q9h (v:=y1.1) (by kernel_rfl) h ?_ ?_
 ·
  intro h
  refine q344 hm hT hC (q1nb (q1mw d) y1) h fun y2 h=>?_
  refine q9c (q91 ?_)
  cases h
  exact (hend _ (by kernel_rfl)).2
 ·
  intro h
  refine q99 (q8z (q9d ?_))
  refine q344 hm hT hC (q1nf (q1mw d) y1) h fun y3 h=>?_
  refine q9h (v:=y3.1) (by kernel_rfl) h ?_ ?_
  ·
   intro h
   refine q344 hm hT hC (q1nh (q1mw d) y3) h fun y4 h=>?_
   refine q9c (q91 ?_)
   cases h
   exact (hend _ (by kernel_rfl)).2
  ·
   intro h
   refine q99 (q8z (q9d ?_))
   refine q344 hm hT hC (q1nl (q1mw d) y3) h fun y5 h=>?_
   refine q9e ?_
   refine q9j (G:=iter (q1ov d )) (S:=(fun x1=>⟨[(1,.ptr 0 0),(3,i6 x1.1)],[.cells [i6 x1.2.1,.fz Riii x1.2.2]]⟩:Int×Int×List Diii→St)) (fun _=>rfl) ?_ d _ h
   intro n1 x1 h K1 hn1
   replace h:q1ov d  (iter (q1ov d ) n1) x1=some r:=h
   generalize iter (q1ov d ) n1=self1 at h hn1
   unfold q1ov at h
   refine q9d ?_
   refine q344 hm hT hC (q1np (q1mw d) x1) h fun y6 h=>?_
   refine q9h (v:=y6.2.1) (by kernel_rfl) h ?_ ?_
   ·
    intro h
    refine q99 (q8z (q9d (q9e ?_)))
    refine q344 hm hT hC (q1nt (q1mw d) y6) h fun y8 h=>?_
    refine q344 hm hT hC (q1nx (q1mw d) y8) h fun y9 h=>?_
    refine q9h (v:=y9.2.1) (by kernel_rfl) h ?_ ?_
    ·
     intro h
     refine q344 hm hT hC (q1nz (q1mw d) y9) h fun y10 h=>?_
     refine q9c (q93 (q91 (q91 (q93 (q91 ?_)))))
     cases h
     exact (hend _ (by kernel_rfl)).2
    ·
     intro h
     refine q99 (q92 (q8z ?_))
     refine q9i hm hT hC (q1o1 (q1mw d) y9) h ?_
     intro y7 h
     exact hn1 _ h
   ·
    intro h
    refine q9b (q90 (q90 (q94 (q8z (q9d ?_)))))
    refine q344 hm hT hC (q1o5 (q1mw d) y6) h fun y11 h=>?_
    refine q9h (v:=y11.1) (by kernel_rfl) h ?_ ?_
    ·
     intro h
     refine q344 hm hT hC (q1o7 (q1mw d) y11) h fun y12 h=>?_
     refine q9c (q91 ?_)
     cases h
     exact (hend _ (by kernel_rfl)).2
    ·
     intro h
     refine q99 (q8z ?_)
     refine q344 hm hT hC (q1ob (q1mw d) y11) h fun y13 h=>?_
     refine q9d ?_
     refine q344 hm hT hC (q1of (q1mw d) y13) h fun y14 h=>?_
     refine q9e ?_
     refine q9j (G:=iter (q1ou d )) (S:=(fun x2=>⟨[(1,.ptr 0 0),(5,.rs 1),(6,i6 x2.1)],[.cells [i6 x2.2.1,.fz Riii x2.2.2.1],.rows Ri x2.2.2.2]⟩:Int×Int×List Diii×List Di→St)) (fun _=>rfl) ?_ d _ h
     intro n2 x2 h K2 hn2
     replace h:q1ou d  (iter (q1ou d ) n2) x2=some r:=h
     generalize iter (q1ou d ) n2=self2 at h hn2
     unfold q1ou at h
     refine q9d ?_
     refine q344 hm hT hC (q1oj (q1mw d) x2) h fun y15 h=>?_
     refine q9h (v:=y15.2.1) (by kernel_rfl) h ?_ ?_
     ·
      intro h
      refine q99 (q8z (q9d (q9e ?_)))
      refine q344 hm hT hC (q1on (q1mw d) y15) h fun y17 h=>?_
      refine q9h (v:=y17.2.1) (by kernel_rfl) h ?_ ?_
      ·
       intro h
       refine q344 hm hT hC (q1op (q1mw d) y17) h fun y18 h=>?_
       refine q9c (q93 (q91 (q91 (q93 (q91 ?_)))))
       cases h
       exact (hend _ (by kernel_rfl)).2
      ·
       intro h
       refine q99 (q92 (q8z ?_))
       refine q9i hm hT hC (q1or (q1mw d) y17) h ?_
       intro y16 h
       exact hn2 _ h
     ·
      intro h
      refine q9b (q90 (q90 (q94 (q8z ?_))))
      refine q344 hm hT hC (q1ot (q1mw d) y15) h fun y19 h=>?_
      refine q9c ?_
      cases h
      exact (hend _ (by kernel_rfl)).2
end Go.Proofs.Ytoakhncbmpdacaa

namespace Go.Tx
open Go
section
variable {P:Program} {V:Nat→Value→Prop} {Q:Exit→Act→World→Prop} {ops:Array Oper}
end
section
variable {P:Program} {T:Tys} {C:Orc} {N:Nat} {V:Nat→Value→Prop} {w0:World} {φ0:Fz0} {Q:Exit→Act→World→Prop}
end
structure MSpec where
  g:FuncId
  τ1:List Pk
  ρ:Row
  τ2:List Pk
  σ:Row
  k:IntKind
  F:dens τ1→den ρ→dens τ2→List (den σ)→Option (Int×List (den σ))
structure COKM (P:Program) (S:MSpec):Prop where
  ok:∀ x1 a x2 xs r,S.F x1 a x2 xs=some r→∀ (w:World) (η:Emb) (vs:List Value),(∀ M,HR M η (cmem xs) w)→VRs η (q9o S.τ1 x1 ++ .agg (split S.ρ a ++ [.rs 0]) :: q9o S.τ2 x2) vs →
    Calls P S.g vs.toArray w fun e w'=>e=.returned (.int S.k r.1)∧(∀ M,HR M η (cmem r.2) w')∧Fr w (cFz xs η) (cmem r.2) η w'
  body:q5q P S.g
section
variable {P:Program} {M:Nat} {H:LH} {η:Emb} {w:World}
end
end Go.Tx

namespace Go.Proofs.Ytoakhncbmpdacaa
open Go Go.Tx Go.Proofs.Try
set_option maxRecDepth 100000
set_option maxHeartbeats 0
end Go.Proofs.Ytoakhncbmpdacaa

namespace Go.Tx
open Go
section
variable {P:Program} {T:Tys} {C:Orc} {w0:World} {φ0:Fz0} {N:Nat} {Q:Exit→Act→World→Prop}
theorem q21s (hm:P.follows .mixedOrders=true) (hT:TysOK P T) (hC:OrcOK P C) {rid:Nat} {ops:Array Oper} {draw:Bool} {keep:List (Nat×Kd)} {s s2:St} (hreg:treg T C N ops draw keep s some=some s2) (hk:Cn w0 φ0 N s2 Q .normal):Run P w0 φ0 N (.region rid ops draw) s Q:=by
  obtain ⟨s',h3,h4⟩:=q8y (D:=φ0.D) hm hT hC hreg
  injection h3 with h3;subst h3
  exact fun a w hs=>h4 w0 φ0 rid a w Q rfl hs hk
theorem q21t {a:Act} {o:Oper} {d n:Nat} {v u:Value} (hd:o.dst=some d) (hne:n≠d) (h:a.tmps[n]?=some u):(a.put o.dst v).tmps[n]?=some u:=by
  rw [hd]
  show (a.tmps.setIfInBounds d v)[n]?=some u
  rw [Array.getElem?_setIfInBounds_ne (Ne.symm hne)];exact h
theorem q21u {a:Act} {o:Oper} {d:Nat} {v:Value} (hd:o.dst=some d) (hlt:d<a.tmps.size):(a.put o.dst v).tmps[d]?=some v:=by
  rw [hd]
  show (a.tmps.setIfInBounds d v)[d]?=some v
  rw [Array.getElem?_setIfInBounds_self_of_lt hlt]
theorem q21v {a:Act} {d:Option Tmp} {v:Value}:(a.put d v).tmps.size=a.tmps.size:=by
  cases d with
  | none=>rfl
  | some d=>exact Array.size_setIfInBounds ..
theorem q21w {a:Act} {d:Option Tmp} {v:Value}:(a.put d v).defers=a.defers:=by
  cases d<;>rfl
theorem q21x {α:Type} {c:Bool} {a:α} (h:c=true):(bif c then some a else none)=some a:=by rw [h];rfl
theorem q21y {rid:Nat} {ops:Array Oper} {o1 o2:Oper} {src t1 t2:Nat} {ty e yt:TypeId} {τ:Row} {xs:List (den τ)} (hops:ops.toList=[o1,o2]) (g1:o1.guard=none) (p1:o1.op=.move (.tmp src)) (d1:o1.dst=some t1) (g2:o2.guard=none)
    (p2:o2.op=.binOp .eql ty (.tmp t1) (.const (.slice none 0 0)) yt) (d2:o2.dst=some t2) (hn:(Nat.beq src t1 || Nat.beq src t2 || Nat.beq t1 t2)=false) (ht:(Nat.blt t1 N&&Nat.blt t2 N)=true) (hu:P.underlying ty=some (.slice e))
    (hk:∀ b,(b=true→xs=[])→Cn w0 φ0 N ⟨[(src,.fz τ xs),(t2,.bool b)],[]⟩ Q .normal):Run P w0 φ0 N (.region rid ops false) ⟨[(src,.fz τ xs)],[]⟩ Q:=by
  simp only [Bool.or_eq_false_iff] at hn
  have n1:=Nat.ne_of_beq_eq_false hn.1.1
  have n2:=Nat.ne_of_beq_eq_false hn.1.2
  simp only [Bool.and_eq_true,Nat.blt_eq] at ht
  intro a w hs
  obtain ⟨⟨η,h1,h2,h3⟩,h4,h5⟩:=hs
  obtain ⟨v,e1,e2⟩:=h2 src _ (List.mem_cons_self ..)
  have hv0:=e2
  cases e2 with
  | fz hf =>
    obtain ⟨A,c,rfl,hc,hA,_⟩:=hf
    have ea:a.eval (.tmp src)=.slice A xs.length c:=by
      show a.tmps.getD src undef=_
      rw [Array.getD_eq_getD_getElem?,e1];rfl
    refine wp_region_list ?_
    rw [hops]
    refine wpList_plain g1 fun K1 hK1=>?_
    unfold Oper.wp execOp
    simp only [p1,ea,Sem.run_pure,Oper.upon]
    refine hK1 _ _ (wpList_plain g2 fun K2 hK2=>?_)
    generalize hb:a.put o1.dst (.slice A xs.length c)=a1
    have eb:a1.eval (.tmp t1)=.slice A xs.length c:=by
      show a1.tmps.getD t1 undef=_
      rw [Array.getD_eq_getD_getElem?,← hb,q21u d1 (by omega)];rfl
    have ec:a1.eval (.const (.slice none 0 0))=.slice none 0 0:=rfl
    have hq:(eqGuard .eql ty (.tmp t1) (.const (.slice none 0 0)) (.slice A xs.length c) (.slice none 0 0)).run P w=.ok () w:=by simp [eqGuard]
    have hr:=Lib.run_eql_slice_nil (P:=P) w ty e A xs.length c 0 0 hu
    unfold Oper.wp execOp
    simp only [p2,eb,ec,Sem.run_bind,hq,Result.andThen_ok,hr,Sem.run_pure,Oper.upon]
    refine hK2 _ _ (hk A.isNone (fun hAn=>?_) _ w ⟨⟨η,h1,fun n l hl=>?_,h3⟩,by rw [q21v,← hb,q21v];exact h4,by rw [q21w,← hb,q21w];exact h5⟩)
    · cases A with
      | none=>have:=hA rfl;exact List.eq_nil_of_length_eq_zero (by omega)
      | some x=>cases hAn
    · rcases List.mem_cons.1 hl with hl | hl
      · injection hl with e3 e4
        rw [e3,e4]
        exact ⟨_,q21t d2 n2 (by rw [← hb];exact q21t d1 n1 e1),hv0⟩
      · rcases List.mem_cons.1 hl with hl | hl
        · injection hl with e3 e4
          rw [e3,e4]
          exact ⟨_,q21u d2 (by rw [← hb,q21v];omega),.bool _⟩
        · cases hl
end
end Go.Tx
