/- Walks of the references; the orders agree; examples. -/
import Derived.Test.YtpfhgnccpiildaaGreatGe
set_option linter.unusedSimpArgs false
set_option linter.unusedVariables false
namespace Go.Proofs.YtpfhgnccpiildaaGreat
open Go Go.Tx Go.Proofs.Tryz
set_option maxRecDepth 100000
set_option maxHeartbeats 0
abbrev q1j2:List Pk:=[.row Ru false,.row Ru false]
abbrev q1j3:Type:=Du×Du×Unit
abbrev q1j4:Type:=Int
def q1j5 (r:q1j4):LV×List Ob:=(.int .u64 r,[])
def q1j6 (F:q1j3→Option q1j4):Go.Tx.Spec:=⟨119,q1j2,q1j4,F,q1j5⟩
abbrev q1j7:Type:=Unit
def q1j8 (_d:Nat):q1j7:=()
def q1j9 (C:q1j7):List Go.Tx.Spec:=[]
abbrev q1ja:Type:=Int×Int
def q1jb (v:q1ja):St:=⟨[(0,.int .u64 v.1),(1,.int .u64 v.2)],[]⟩
def q1jc (C:q1j7) (v:q1ja):Dt q1ja:=(Dt.ret (v.1,v.2))
abbrev q3zk {V Y:Type}:=@rg q1j7 V Y tysT (fun C=>(orc (q1j9 C))) 12
theorem q1jd C v:q3zk (regO (qcz f119) 0) false (an [0,1]) q1jb q1jc q1jb C v:=rgI (by kernel_rfl)
abbrev q1je:Type:=Int×Int×Bool
def q1jf (v:q1je):St:=⟨[(0,.int .u64 v.1),(1,.int .u64 v.2.1),(6,.bool v.2.2)],[]⟩
def q1jg (C:q1j7) (v:q1ja):Dt q1je:=(Dt.ret (v.1,v.2,(decide (v.2 > (0:Int)))))
theorem q1jh C v:q3zk (regO (qcz f119) 1) false (an [0,1,6]) q1jb q1jg q1jf C v:=rgI (by kernel_rfl)
def q1ji (C:q1j7) (v:q1je):Dt q1ja:=(Dt.ite (v.2.1 == (0:Int)) Dt.fail (Dt.ret (v.2.1,(Int.tmod v.1 v.2.1))))
theorem q1jj C v:q3zk (regO (qcz f119) 2) true (an [0,1]) q1jf q1ji q1jb C v:=rgI (by kernel_rfl)
abbrev q1jk:Type:=Int
def q1jl (v:q1jk):St:=⟨[(4,.int .u64 v)],[]⟩
def q1jm (C:q1j7) (v:q1je):Dt q1jk:=(Dt.ret v.1)
theorem q1jn C v:q3zk (regO (qcz f119) 3) false [(4,.any)] q1jf q1jm q1jl C v:=rgI (by kernel_rfl)
def q1jo (d:Nat) (self1:(Int×Int)→Option q1j4) (x1:Int×Int):Option q1j4 :=
 (q1jg (q1j8 d) x1).eval fun y1 =>
 bif y1.2.2 then ((q1ji (q1j8 d) y1).eval fun y2 =>
 self1 y2) else ((q1jm (q1j8 d) y1).eval fun y3 =>
 some y3)
def q1jp (d:Nat) (x:q1j3):Option q1j4 :=
 (q1jc (q1j8 d) (x.1.1,x.2.1.1)).eval fun y0 =>
 iter (q1jo d ) d y0
theorem q1jq (d:Nat):COK prog (q1j6 (q1jp d)):=by
 have hm:prog.follows .mixedOrders=true:=qju
 have hT:=tys
 have hC0:OrcOK prog (orc (q1j9 (q1j8 d))):=qct (by
  intro S hS
  simp only [q1j9,List.mem_cons,List.not_mem_nil,or_false] at hS
  all_goals first | cases hS | exact hS.elim)
 have hC:OrcOK prog (orc (q1j9 (q1j8 d))):=hC0
 refine q8f (c:=qcz f119) (fn:=f119) hT (by kernel_rfl) (by kernel_rfl) (by decide) fun x r h w0 φ0 Q hend=>?_
 replace h:q1jp d x=some r:=h
 unfold q1jp at h
 show Run prog w0 φ0 12 (qcz f119) ⟨[(0,.int .u64 x.1.1),(1,.int .u64 x.2.1.1)],[]⟩ Q
 refine q3yy hm hT hC (q1jd (q1j8 d) (x.1.1,x.2.1.1)) h fun y0 h=>?_
 refine q7z (q80 ?_)
 refine q85 (G:=iter (q1jo d )) (S:=(fun x1=>⟨[(0,.int .u64 x1.1),(1,.int .u64 x1.2)],[]⟩:Int×Int→St)) (fun _=>rfl) ?_ d _ h
 intro n1 x1 h K1 hn1
 replace h:q1jo d  (iter (q1jo d ) n1) x1=some r:=h
 generalize iter (q1jo d ) n1=self1 at h hn1
 unfold q1jo at h
 refine q7z ?_
 refine q3yy hm hT hC (q1jh (q1j8 d) x1) h fun y1 h=>?_
 refine q83 (v:=y1.2.2) (by kernel_rfl) h ?_ ?_
 ·
  intro h
  refine q7v (q7l (q80 ?_))
  refine q84 hm hT hC (q1jj (q1j8 d) y1) h ?_
  intro y2 h
  refine q7o ?_
  exact hn1 _ h
 ·
  intro h
  refine q7x (q7m (q7m (q7q (q7l ?_))))
  refine q3yy hm hT hC (q1jn (q1j8 d) y1) h fun y3 h=>?_
  refine q7y ?_
  cases h
  exact (hend _ (by kernel_rfl)).2
abbrev q1jr:List Pk:=[.row Rbuu true,.row Rbuu true]
abbrev q1js:Type:=Dbuu×Dbuu×Unit
abbrev q1jt:Type:=Bool×Int×Int
def q1ju (r:q1jt):LV×List Ob:=(.agg [.bool r.1,.int .u64 r.2.1,.int .u64 r.2.2],[])
def q1jv (F:q1js→Option q1jt):Go.Tx.Spec:=⟨120,q1jr,q1jt,F,q1ju⟩
abbrev q1jw:Type:=(q147→Option q148)×Unit
def q1jx (d:Nat):q1jw:=(q14y d,())
def q1jy (C:q1jw):List Go.Tx.Spec:=[q14a C.1]
abbrev q1jz:Type:=Bool×Int×Int×Bool×Int×Int
def q1k0 (v:q1jz):St:=⟨[(0,.agg [.bool v.1,.int .u64 v.2.1,.int .u64 v.2.2.1]),(1,.agg [.bool v.2.2.2.1,.int .u64 v.2.2.2.2.1,.int .u64 v.2.2.2.2.2])],[]⟩
abbrev q1k1:Type:=Bool×Int×Int×Bool×Int×Int×Bool×Int×Int
def q1k2 (v:q1k1):St:=⟨[(2,.ptr 0 0),(3,.ptr 1 0),(4,.ptr 2 0)],[.cells [.bool v.1,.int .u64 v.2.1,.int .u64 v.2.2.1],.cells [.bool v.2.2.2.1,.int .u64 v.2.2.2.2.1,.int .u64 v.2.2.2.2.2.1],.cells [.bool v.2.2.2.2.2.2.1,.int .u64 v.2.2.2.2.2.2.2.1,.int .u64 v.2.2.2.2.2.2.2.2]]⟩
def q1k3 (C:q1jw) (v:q1jz):Dt q1k1:=(Dt.ret (v.1,v.2.1,v.2.2.1,v.2.2.2.1,v.2.2.2.2.1,v.2.2.2.2.2,false,(0:Int),(0:Int)))
abbrev q3zl {V Y:Type}:=@rg q1jw V Y tysT (fun C=>(orcI 145 q1d3 (orcI 106 q1d4 (orc (q1jy C))))) 68
theorem q1k4 C v:q3zl (regO (qcz f120) 0) false (an [2,3,4]) q1k0 q1k3 q1k2 C v:=rgI (by kernel_rfl)
abbrev q1k5:Type:=Bool×Bool×Int×Int×Bool×Int×Int×Bool×Int×Int
def q1k6 (v:q1k5):St:=⟨[(2,.ptr 0 0),(3,.ptr 1 0),(4,.ptr 2 0),(17,.bool v.1)],[.cells [.bool v.2.1,.int .u64 v.2.2.1,.int .u64 v.2.2.2.1],.cells [.bool v.2.2.2.2.1,.int .u64 v.2.2.2.2.2.1,.int .u64 v.2.2.2.2.2.2.1],.cells [.bool v.2.2.2.2.2.2.2.1,.int .u64 v.2.2.2.2.2.2.2.2.1,.int .u64 v.2.2.2.2.2.2.2.2.2]]⟩
def q1k7 (C:q1jw) (v:q1k1):Dt q1k5:=(Dt.ret ((v.1 == v.2.2.2.1),v.1,v.2.1,v.2.2.1,v.2.2.2.1,v.2.2.2.2.1,v.2.2.2.2.2.1,v.2.2.2.2.2.2.1,v.2.2.2.2.2.2.2.1,v.2.2.2.2.2.2.2.2))
theorem q1k8 C v:q3zl (regO (qcz f120) 1) false (an [2,3,4,17]) q1k2 q1k7 q1k6 C v:=rgI (by kernel_rfl)
abbrev q1k9:Type:=Int×Int×Bool×Int×Int×Bool×Int×Int×Bool×Int×Int
def q1ka (v:q1k9):St:=⟨[(2,.ptr 0 0),(3,.ptr 1 0),(4,.ptr 2 0),(5,.int .u64 v.1),(6,.int .u64 v.2.1)],[.cells [.bool v.2.2.1,.int .u64 v.2.2.2.1,.int .u64 v.2.2.2.2.1],.cells [.bool v.2.2.2.2.2.1,.int .u64 v.2.2.2.2.2.2.1,.int .u64 v.2.2.2.2.2.2.2.1],.cells [.bool v.2.2.2.2.2.2.2.2.1,.int .u64 v.2.2.2.2.2.2.2.2.2.1,.int .u64 v.2.2.2.2.2.2.2.2.2.2]]⟩
def q1kb (C:q1jw) (v:q1k5):Dt q1k9:=(Dt.bnd (q1d3 (v.2.2.2.1) (v.2.2.2.2.2.2.1) ((0:Int))) fun r1=>(Dt.ret (r1.1,r1.2,v.2.1,v.2.2.1,v.2.2.2.1,v.2.2.2.2.1,v.2.2.2.2.2.1,v.2.2.2.2.2.2.1,v.2.2.2.2.2.2.2.1,v.2.2.2.2.2.2.2.2.1,v.2.2.2.2.2.2.2.2.2)))
theorem q1kc C v:q3zl (regO (qcz f120) 2) false (an [2,3,4,5,6]) q1k6 q1kb q1ka C v:=rgI (by kernel_rfl)
abbrev q1kd:Type:=Int×Int×Bool×Int×Int×Bool×Int×Int
def q1ke (v:q1kd):St:=⟨[(2,.ptr 0 0),(4,.ptr 1 0),(5,.int .u64 v.1),(7,.int .u64 v.2.1)],[.cells [.bool v.2.2.1,.int .u64 v.2.2.2.1,.int .u64 v.2.2.2.2.1],.cells [.bool v.2.2.2.2.2.1,.int .u64 v.2.2.2.2.2.2.1,.int .u64 v.2.2.2.2.2.2.2]]⟩
def q1kf (C:q1jw) (v:q1k9):Dt q1kd:=(Dt.bnd (q1d3 (v.2.2.2.1) (v.2.2.2.2.2.2.1) (v.2.1)) fun r1=>(Dt.ret (v.1,r1.1,v.2.2.1,v.2.2.2.1,v.2.2.2.2.1,v.2.2.2.2.2.2.2.2.1,v.2.2.2.2.2.2.2.2.2.1,v.2.2.2.2.2.2.2.2.2.2)))
theorem q1kg C v:q3zl (regO (qcz f120) 3) false (an [2,4,5,7]) q1ka q1kf q1ke C v:=rgI (by kernel_rfl)
abbrev q1kh:Type:=Bool×Int×Int
def q1ki (v:q1kh):St:=⟨[(4,.ptr 0 0)],[.cells [.bool v.1,.int .u64 v.2.1,.int .u64 v.2.2]]⟩
def q1kj (C:q1jw) (v:q1kd):Dt q1kh:=(Dt.ret (v.2.2.1,v.2.1,v.1))
theorem q1kk C v:q3zl (regO (qcz f120) 4) false [(4,.any)] q1ke q1kj q1ki C v:=rgI (by kernel_rfl)
abbrev q1kl:Type:=Bool×Bool×Int×Int×Bool×Int×Int×Bool×Int×Int
def q1km (v:q1kl):St:=⟨[(2,.ptr 0 0),(3,.ptr 1 0),(4,.ptr 2 0),(43,.bool v.1)],[.cells [.bool v.2.1,.int .u64 v.2.2.1,.int .u64 v.2.2.2.1],.cells [.bool v.2.2.2.2.1,.int .u64 v.2.2.2.2.2.1,.int .u64 v.2.2.2.2.2.2.1],.cells [.bool v.2.2.2.2.2.2.2.1,.int .u64 v.2.2.2.2.2.2.2.2.1,.int .u64 v.2.2.2.2.2.2.2.2.2]]⟩
def q1kn (C:q1jw) (v:q1k5):Dt q1kl:=(Dt.bnd (C.1 ((v.2.1,v.2.2.1,v.2.2.2.1,()),(v.2.2.2.2.1,v.2.2.2.2.2.1,v.2.2.2.2.2.2.1,()),())) fun r1=>(Dt.ret ((decide (r1 < (0:Int))),v.2.1,v.2.2.1,v.2.2.2.1,v.2.2.2.2.1,v.2.2.2.2.2.1,v.2.2.2.2.2.2.1,v.2.2.2.2.2.2.2.1,v.2.2.2.2.2.2.2.2.1,v.2.2.2.2.2.2.2.2.2)))
theorem q1ko C v:q3zl (regO (qcz f120) 5) false (an [2,3,4,43]) q1k6 q1kn q1km C v:=rgI (by kernel_rfl)
def q1kp (C:q1jw) (v:q1kl):Dt q1k1:=(Dt.ret (v.2.2.2.2.1,v.2.2.2.2.2.1,v.2.2.2.2.2.2.1,v.2.1,v.2.2.1,v.2.2.2.1,v.2.2.2.2.2.2.2.1,v.2.2.2.2.2.2.2.2.1,v.2.2.2.2.2.2.2.2.2))
theorem q1kq C v:q3zl (regO (qcz f120) 6) false (an [2,3,4]) q1km q1kp q1k2 C v:=rgI (by kernel_rfl)
abbrev q1kr:Type:=Int×Int×Bool×Int×Int×Bool×Int×Int×Bool×Int×Int
def q1ks (v:q1kr):St:=⟨[(2,.ptr 0 0),(3,.ptr 1 0),(4,.ptr 2 0),(9,.int .u64 v.1),(10,.int .u64 v.2.1)],[.cells [.bool v.2.2.1,.int .u64 v.2.2.2.1,.int .u64 v.2.2.2.2.1],.cells [.bool v.2.2.2.2.2.1,.int .u64 v.2.2.2.2.2.2.1,.int .u64 v.2.2.2.2.2.2.2.1],.cells [.bool v.2.2.2.2.2.2.2.2.1,.int .u64 v.2.2.2.2.2.2.2.2.2.1,.int .u64 v.2.2.2.2.2.2.2.2.2.2]]⟩
def q1kt (C:q1jw) (v:q1k1):Dt q1kr:=(Dt.bnd (q1d4 (v.2.2.1) (v.2.2.2.2.2.1) ((0:Int))) fun r1=>(Dt.ret (r1.1,r1.2,v.1,v.2.1,v.2.2.1,v.2.2.2.1,v.2.2.2.2.1,v.2.2.2.2.2.1,v.2.2.2.2.2.2.1,v.2.2.2.2.2.2.2.1,v.2.2.2.2.2.2.2.2)))
theorem q1ku C v:q3zl (regO (qcz f120) 7) false (an [2,3,4,9,10]) q1k2 q1kt q1ks C v:=rgI (by kernel_rfl)
abbrev q1kv:Type:=Int×Int×Bool×Int×Int×Bool×Int×Int
def q1kw (v:q1kv):St:=⟨[(2,.ptr 0 0),(4,.ptr 1 0),(9,.int .u64 v.1),(11,.int .u64 v.2.1)],[.cells [.bool v.2.2.1,.int .u64 v.2.2.2.1,.int .u64 v.2.2.2.2.1],.cells [.bool v.2.2.2.2.2.1,.int .u64 v.2.2.2.2.2.2.1,.int .u64 v.2.2.2.2.2.2.2]]⟩
def q1kx (C:q1jw) (v:q1kr):Dt q1kv:=(Dt.bnd (q1d4 (v.2.2.2.1) (v.2.2.2.2.2.2.1) (v.2.1)) fun r1=>(Dt.ret (v.1,r1.1,v.2.2.1,v.2.2.2.1,v.2.2.2.2.1,v.2.2.2.2.2.2.2.2.1,v.2.2.2.2.2.2.2.2.2.1,v.2.2.2.2.2.2.2.2.2.2)))
theorem q1ky C v:q3zl (regO (qcz f120) 8) false (an [2,4,9,11]) q1ks q1kx q1kw C v:=rgI (by kernel_rfl)
def q1kz (C:q1jw) (v:q1kv):Dt q1kh:=(Dt.ret (v.2.2.1,v.2.1,v.1))
theorem q1l0 C v:q3zl (regO (qcz f120) 9) false [(4,.any)] q1kw q1kz q1ki C v:=rgI (by kernel_rfl)
def q1l1  (d:Nat)  (z:Bool×Int×Int×Bool×Int×Int×Bool×Int×Int):Option (q1jt) :=
 (q1kt (q1jx d) z).eval fun y7 =>
 (q1kx (q1jx d) y7).eval fun y8 =>
 (q1kz (q1jx d) y8).eval fun y9 =>
 some y9
def q1l2 (d:Nat) (x:q1js):Option q1jt :=
 (q1k3 (q1jx d) (x.1.1,x.1.2.1,x.1.2.2.1,x.2.1.1,x.2.1.2.1,x.2.1.2.2.1)).eval fun y0 =>
 (q1k7 (q1jx d) y0).eval fun y1 =>
 bif y1.1 then ((q1kb (q1jx d) y1).eval fun y2 =>
 (q1kf (q1jx d) y2).eval fun y3 =>
 (q1kj (q1jx d) y3).eval fun y4 =>
 some y4) else ((q1kn (q1jx d) y1).eval fun y5 =>
 bif y5.1 then ((q1kp (q1jx d) y5).eval fun y6 =>
 q1l1 d  y6) else (q1l1 d  y5.2))
theorem q1l3 (d:Nat):COK prog (q1jv (q1l2 d)):=by
 have hm:prog.follows .mixedOrders=true:=qju
 have hT:=tys
 have hC0:OrcOK prog (orc (q1jy (q1jx d))):=qct (by
  intro S hS
  simp only [q1jy,List.mem_cons,List.not_mem_nil,or_false] at hS
  subst hS;exact q14z d)
 have hC:OrcOK prog (orcI 145 q1d3 (orcI 106 q1d4 (orc (q1jy (q1jx d))))):=(q1d5 q1d8 (q1d5 q1d9 hC0))
 refine q8f (c:=qcz f120) (fn:=f120) hT (by kernel_rfl) (by kernel_rfl) (by decide) fun x r h w0 φ0 Q hend=>?_
 replace h:q1l2 d x=some r:=h
 unfold q1l2 at h
 show Run prog w0 φ0 68 (qcz f120) ⟨[(0,.agg [.bool x.1.1,.int .u64 x.1.2.1,.int .u64 x.1.2.2.1]),(1,.agg [.bool x.2.1.1,.int .u64 x.2.1.2.1,.int .u64 x.2.1.2.2.1])],[]⟩ Q
 refine q3yy hm hT hC (q1k4 (q1jx d) (x.1.1,x.1.2.1,x.1.2.2.1,x.2.1.1,x.2.1.2.1,x.2.1.2.2.1)) h fun y0 h=>?_
 refine q7z ?_
 refine q3yy hm hT hC (q1k8 (q1jx d) y0) h fun y1 h=>?_
 refine q83 (v:=y1.1) (by kernel_rfl) h ?_ ?_
 ·
  intro h
  refine q3yy hm hT hC (q1kc (q1jx d) y1) h fun y2 h=>?_
  refine q3yy hm hT hC (q1kg (q1jx d) y2) h fun y3 h=>?_
  refine q3yy hm hT hC (q1kk (q1jx d) y3) h fun y4 h=>?_
  refine q7y (q7n ?_)
  cases h
  exact (hend _ (by kernel_rfl)).2
 ·
  intro h
  refine q7v (q7l ?_)
  refine q82 (r:=r) (F:=q1l1 d ) (S:=(fun z=>⟨[(2,.ptr 0 0),(3,.ptr 1 0),(4,.ptr 2 0)],[.cells [.bool z.1,.int .u64 z.2.1,.int .u64 z.2.2.1],.cells [.bool z.2.2.2.1,.int .u64 z.2.2.2.2.1,.int .u64 z.2.2.2.2.2.1],.cells [.bool z.2.2.2.2.2.2.1,.int .u64 z.2.2.2.2.2.2.2.1,.int .u64 z.2.2.2.2.2.2.2.2]]⟩:q1k1→St)) ?_ ?_
  ·
   intro z h
   unfold q1l1 at h
   refine q3yy hm hT hC (q1ku (q1jx d) z) h fun y7 h=>?_
   refine q3yy hm hT hC (q1ky (q1jx d) y7) h fun y8 h=>?_
   refine q3yy hm hT hC (q1l0 (q1jx d) y8) h fun y9 h=>?_
   refine q7y ?_
   cases h
   exact (hend _ (by kernel_rfl)).2
  intro hj1
  refine q3yy hm hT hC (q1ko (q1jx d) y1) h fun y5 h=>?_
  refine q83 (v:=y5.1) (by kernel_rfl) h ?_ ?_
  ·
   intro h
   refine q84 hm hT hC (q1kq (q1jx d) y5) h ?_
   intro y6 h
   exact hj1 _ h
  ·
   intro h
   refine q7v ?_
   refine qcy (s:=⟨[(2,.ptr 0 0),(3,.ptr 1 0),(4,.ptr 2 0)],[.cells [.bool y5.2.1,.int .u64 y5.2.2.1,.int .u64 y5.2.2.2.1],.cells [.bool y5.2.2.2.2.1,.int .u64 y5.2.2.2.2.2.1,.int .u64 y5.2.2.2.2.2.2.1],.cells [.bool y5.2.2.2.2.2.2.2.1,.int .u64 y5.2.2.2.2.2.2.2.2.1,.int .u64 y5.2.2.2.2.2.2.2.2.2]]⟩) [43] (by kernel_rfl) ?_
   exact hj1 _ h
abbrev q1l4:List Pk:=[.row Rbuu true,.row Ru false]
abbrev q1l5:Type:=Dbuu×Du×Unit
abbrev q1l6:Type:=Bool×Int×Int×Int
def q1l7 (r:q1l6):LV×List Ob:=(.tup [.agg [.bool r.1,.int .u64 r.2.1,.int .u64 r.2.2.1],.int .u64 r.2.2.2],[])
def q1l8 (F:q1l5→Option q1l6):Go.Tx.Spec:=⟨122,q1l4,q1l6,F,q1l7⟩
abbrev q1l9:Type:=(q1f4→Option q1f5)×Unit
def q1la (d:Nat):q1l9:=(q1i5 d,())
def q1lb (C:q1l9):List Go.Tx.Spec:=[q1f7 C.1]
abbrev q1lc:Type:=Bool×Int×Int×Int
def q1ld (v:q1lc):St:=⟨[(0,.agg [.bool v.1,.int .u64 v.2.1,.int .u64 v.2.2.1]),(1,.int .u64 v.2.2.2)],[]⟩
abbrev q1le:Type:=Int×Bool×Int×Int×Bool×Int×Int
def q1lf (v:q1le):St:=⟨[(1,.int .u64 v.1),(2,.ptr 0 0),(4,.ptr 1 0)],[.cells [.bool v.2.1,.int .u64 v.2.2.1,.int .u64 v.2.2.2.1],.cells [.bool v.2.2.2.2.1,.int .u64 v.2.2.2.2.2.1,.int .u64 v.2.2.2.2.2.2]]⟩
def q1lg (C:q1l9) (v:q1lc):Dt q1le:=(Dt.ret (v.2.2.2,v.1,v.2.1,v.2.2.1,false,(0:Int),(0:Int)))
abbrev q3zm {V Y:Type}:=@rg q1l9 V Y tysT (fun C=>(orc (q1lb C))) 31
theorem q1lh C v:q3zm (regO (qcz f122) 0) false (an [1,2,4]) q1ld q1lg q1lf C v:=rgI (by kernel_rfl)
abbrev q1li:Type:=Int×Int×Int×Bool×Int×Int×Bool×Int×Int
def q1lj (v:q1li):St:=⟨[(1,.int .u64 v.1),(2,.ptr 0 0),(4,.ptr 1 0),(6,.int .u64 v.2.1),(7,.int .u64 v.2.2.1)],[.cells [.bool v.2.2.2.1,.int .u64 v.2.2.2.2.1,.int .u64 v.2.2.2.2.2.1],.cells [.bool v.2.2.2.2.2.2.1,.int .u64 v.2.2.2.2.2.2.2.1,.int .u64 v.2.2.2.2.2.2.2.2]]⟩
def q1lk (C:q1l9) (v:q1le):Dt q1li:=(Dt.ite (v.1 == (0:Int)) Dt.fail (Dt.ite (v.1 == (0:Int)) Dt.fail (Dt.ret (v.1,(IntKind.wrap .u64 (Int.tdiv v.2.2.1 v.1)),(Int.tmod v.2.2.1 v.1),v.2.1,v.2.2.1,v.2.2.2.1,v.2.2.2.2.1,v.2.2.2.2.2.1,v.2.2.2.2.2.2))))
theorem q1ll C v:q3zm (regO (qcz f122) 1) true (an [1,2,4,6,7]) q1lf q1lk q1lj C v:=rgI (by kernel_rfl)
abbrev q1lm:Type:=Int×Int×Int×Bool×Int×Int×Bool×Int×Int
def q1ln (v:q1lm):St:=⟨[(2,.ptr 0 0),(4,.ptr 1 0),(6,.int .u64 v.1),(7,.int .u64 v.2.1),(8,.int .u64 v.2.2.1)],[.cells [.bool v.2.2.2.1,.int .u64 v.2.2.2.2.1,.int .u64 v.2.2.2.2.2.1],.cells [.bool v.2.2.2.2.2.2.1,.int .u64 v.2.2.2.2.2.2.2.1,.int .u64 v.2.2.2.2.2.2.2.2]]⟩
def q1lo (C:q1l9) (v:q1li):Dt q1lm:=(Dt.bnd (C.1 ((v.2.2.1,()),(v.2.2.2.2.2.1,()),(v.1,()),())) fun r1=>(Dt.ret (v.2.1,r1.2,r1.1,v.2.2.2.1,v.2.2.2.2.1,v.2.2.2.2.2.1,v.2.2.2.2.2.2.1,v.2.2.2.2.2.2.2.1,v.2.2.2.2.2.2.2.2)))
theorem q1lp C v:q3zm (regO (qcz f122) 2) false (an [2,4,6,7,8]) q1lj q1lo q1ln C v:=rgI (by kernel_rfl)
abbrev q1lq:Type:=Int×Bool×Int×Int
def q1lr (v:q1lq):St:=⟨[(4,.ptr 0 0),(5,.int .u64 v.1)],[.cells [.bool v.2.1,.int .u64 v.2.2.1,.int .u64 v.2.2.2]]⟩
def q1ls (C:q1l9) (v:q1lm):Dt q1lq:=(Dt.ret (v.2.1,v.2.2.2.1,v.1,v.2.2.1))
theorem q1lt C v:q3zm (regO (qcz f122) 3) false (an [4,5]) q1ln q1ls q1lr C v:=rgI (by kernel_rfl)
def q1lu (d:Nat) (x:q1l5):Option q1l6 :=
 (q1lg (q1la d) (x.1.1,x.1.2.1,x.1.2.2.1,x.2.1.1)).eval fun y0 =>
 (q1lk (q1la d) y0).eval fun y1 =>
 (q1lo (q1la d) y1).eval fun y2 =>
 (q1ls (q1la d) y2).eval fun y3 =>
 some (y3.2.1,y3.2.2.1,y3.2.2.2,y3.1)
theorem q1lv (d:Nat):COK prog (q1l8 (q1lu d)):=by
 have hm:prog.follows .mixedOrders=true:=qju
 have hT:=tys
 have hC0:OrcOK prog (orc (q1lb (q1la d))):=qct (by
  intro S hS
  simp only [q1lb,List.mem_cons,List.not_mem_nil,or_false] at hS
  subst hS;exact q1i6 d)
 have hC:OrcOK prog (orc (q1lb (q1la d))):=hC0
 refine q8f (c:=qcz f122) (fn:=f122) hT (by kernel_rfl) (by kernel_rfl) (by decide) fun x r h w0 φ0 Q hend=>?_
 replace h:q1lu d x=some r:=h
 unfold q1lu at h
 show Run prog w0 φ0 31 (qcz f122) ⟨[(0,.agg [.bool x.1.1,.int .u64 x.1.2.1,.int .u64 x.1.2.2.1]),(1,.int .u64 x.2.1.1)],[]⟩ Q
 refine q3yy hm hT hC (q1lh (q1la d) (x.1.1,x.1.2.1,x.1.2.2.1,x.2.1.1)) h fun y0 h=>?_
 refine q3yy hm hT hC (q1ll (q1la d) y0) h fun y1 h=>?_
 refine q3yy hm hT hC (q1lp (q1la d) y1) h fun y2 h=>?_
 refine q3yy hm hT hC (q1lt (q1la d) y2) h fun y3 h=>?_
 refine q7y ?_
 cases h
 exact (hend _ (by kernel_rfl)).2
abbrev q1lw:List Pk:=[.row Rbuu true,.row Ru false,.row Ru false]
abbrev q1lx:Type:=Dbuu×Du×Du×Unit
abbrev q1ly:Type:=Int×Int×Int
def q1lz (r:q1ly):LV×List Ob:=(.tup [.agg [.int .i64 r.1,.int .i64 r.2.1],.int .i64 r.2.2],[])
def q1m0 (F:q1lx→Option q1ly):Go.Tx.Spec:=⟨124,q1lw,q1ly,F,q1lz⟩
abbrev q1m1:Type:=Unit
def q1m2 (_d:Nat):q1m1:=()
def q1m3 (C:q1m1):List Go.Tx.Spec:=[]
abbrev q1m4:Type:=Bool×Int×Int×Int×Int
def q1m5 (v:q1m4):St:=⟨[(0,.agg [.bool v.1,.int .u64 v.2.1,.int .u64 v.2.2.1]),(1,.int .u64 v.2.2.2.1),(2,.int .u64 v.2.2.2.2)],[]⟩
abbrev q1m6:Type:=Int×Int×Bool×Int×Int×Int×Int
def q1m7 (v:q1m6):St:=⟨[(1,.int .u64 v.1),(2,.int .u64 v.2.1),(3,.ptr 0 0),(6,.ptr 1 0)],[.cells [.bool v.2.2.1,.int .u64 v.2.2.2.1,.int .u64 v.2.2.2.2.1],.cells [.int .i64 v.2.2.2.2.2.1,.int .i64 v.2.2.2.2.2.2]]⟩
def q1m8 (C:q1m1) (v:q1m4):Dt q1m6:=(Dt.ret (v.2.2.2.1,v.2.2.2.2,v.1,v.2.1,v.2.2.1,(0:Int),(0:Int)))
abbrev q3zn {V Y:Type}:=@rg q1m1 V Y tysT (fun C=>(orc (q1m3 C))) 39
theorem q1m9 C v:q3zn (regO (qcz f124) 0) false (an [1,2,3,6]) q1m5 q1m8 q1m7 C v:=rgI (by kernel_rfl)
abbrev q1ma:Type:=Int×Bool×Bool×Int×Int×Int×Int
def q1mb (v:q1ma):St:=⟨[(2,.int .u64 v.1),(3,.ptr 0 0),(6,.ptr 1 0),(24,.bool v.2.1)],[.cells [.bool v.2.2.1,.int .u64 v.2.2.2.1,.int .u64 v.2.2.2.2.1],.cells [.int .i64 v.2.2.2.2.2.1,.int .i64 v.2.2.2.2.2.2]]⟩
def q1mc (C:q1m1) (v:q1m6):Dt q1ma:=(Dt.ite (decide (v.2.2.2.1 > (0:Int))) (Dt.ret (v.2.1,true,v.2.2.1,v.2.2.2.1,v.2.2.2.2.1,v.2.2.2.2.2.1,v.2.2.2.2.2.2)) (Dt.ite (decide (v.2.2.2.2.1 > (9223372036854775807:Int))) (Dt.ret (v.2.1,true,v.2.2.1,v.2.2.2.1,v.2.2.2.2.1,v.2.2.2.2.2.1,v.2.2.2.2.2.2)) (Dt.ite (decide (v.1 > (0:Int))) (Dt.ret (v.2.1,true,v.2.2.1,v.2.2.2.1,v.2.2.2.2.1,v.2.2.2.2.2.1,v.2.2.2.2.2.2)) (Dt.ret (v.2.1,(decide (v.2.1 > (9223372036854775807:Int))),v.2.2.1,v.2.2.2.1,v.2.2.2.2.1,v.2.2.2.2.2.1,v.2.2.2.2.2.2)))))
theorem q1md C v:q3zn (regO (qcz f124) 1) false (an [2,3,6,24]) q1m7 q1mc q1mb C v:=rgI (by kernel_rfl)
abbrev q1me:Type:=Int×Int×Int
def q1mf (v:q1me):St:=⟨[(6,.ptr 0 0),(7,.int .i64 v.1)],[.cells [.int .i64 v.2.1,.int .i64 v.2.2]]⟩
def q1mg (C:q1m1) (v:q1ma):Dt q1me:=(Dt.ret ((16:Int),(0:Int),(0:Int)))
theorem q1mh C v:q3zn (regO (qcz f124) 2) false (an [6,7]) q1mb q1mg q1mf C v:=rgI (by kernel_rfl)
abbrev q1mi:Type:=Bool×Int×Int×Int×Int×Int×Int
def q1mj (v:q1mi):St:=⟨[(3,.ptr 0 0),(6,.ptr 1 0),(8,.ptr 2 0)],[.cells [.bool v.1,.int .u64 v.2.1,.int .u64 v.2.2.1],.cells [.int .i64 v.2.2.2.1,.int .i64 v.2.2.2.2.1],.cells [.int .i64 v.2.2.2.2.2.1,.int .i64 v.2.2.2.2.2.2]]⟩
def q1mk (C:q1m1) (v:q1ma):Dt q1mi:=(Dt.ret (v.2.2.1,v.2.2.2.1,v.2.2.2.2.1,v.2.2.2.2.2.1,v.2.2.2.2.2.2,(IntKind.wrap .i64 v.2.2.2.2.1),(IntKind.wrap .i64 v.1)))
theorem q1ml C v:q3zn (regO (qcz f124) 3) false (an [3,6,8]) q1mb q1mk q1mj C v:=rgI (by kernel_rfl)
abbrev q1mm:Type:=Bool×Int×Int×Int×Int
def q1mn (v:q1mm):St:=⟨[(6,.ptr 0 0),(8,.ptr 1 0),(33,.bool v.1)],[.cells [.int .i64 v.2.1,.int .i64 v.2.2.1],.cells [.int .i64 v.2.2.2.1,.int .i64 v.2.2.2.2]]⟩
def q1mo (C:q1m1) (v:q1mi):Dt q1mm:=(Dt.ret (v.1,v.2.2.2.1,v.2.2.2.2.1,v.2.2.2.2.2.1,v.2.2.2.2.2.2))
theorem q1mp C v:q3zn (regO (qcz f124) 4) false (an [6,8,33]) q1mj q1mo q1mn C v:=rgI (by kernel_rfl)
abbrev q1mq:Type:=Int×Int×Int×Int
def q1mr (v:q1mq):St:=⟨[(6,.ptr 0 0),(8,.ptr 1 0)],[.cells [.int .i64 v.1,.int .i64 v.2.1],.cells [.int .i64 v.2.2.1,.int .i64 v.2.2.2]]⟩
def q1ms (C:q1m1) (v:q1mm):Dt q1mq:=(Dt.ret (v.2.1,v.2.2.1,(IntKind.wrap .i64 (0 - v.2.2.2.1)),v.2.2.2.2))
theorem q1mt C v:q3zn (regO (qcz f124) 5) false (an [6,8]) q1mn q1ms q1mr C v:=rgI (by kernel_rfl)
def q1mu (C:q1m1) (v:q1mq):Dt q1me:=(Dt.ret ((0:Int),v.2.2.1,v.2.2.2))
theorem q1mv C v:q3zn (regO (qcz f124) 6) false (an [6,7]) q1mr q1mu q1mf C v:=rgI (by kernel_rfl)
def q1mw  (d:Nat)  (z:Int×Int×Int×Int):Option (q1ly) :=
 (q1mu (q1m2 d) z).eval fun y6 =>
 some (y6.2.1,y6.2.2,y6.1)
def q1mx (d:Nat) (x:q1lx):Option q1ly :=
 (q1m8 (q1m2 d) (x.1.1,x.1.2.1,x.1.2.2.1,x.2.1.1,x.2.2.1.1)).eval fun y0 =>
 (q1mc (q1m2 d) y0).eval fun y1 =>
 bif y1.2.1 then ((q1mg (q1m2 d) y1).eval fun y2 =>
 some (y2.2.1,y2.2.2,y2.1)) else ((q1mk (q1m2 d) y1).eval fun y3 =>
 (q1mo (q1m2 d) y3).eval fun y4 =>
 bif y4.1 then ((q1ms (q1m2 d) y4).eval fun y5 =>
 q1mw d  y5) else (q1mw d  y4.2))
theorem q1my (d:Nat):COK prog (q1m0 (q1mx d)):=by
 have hm:prog.follows .mixedOrders=true:=qju
 have hT:=tys
 have hC0:OrcOK prog (orc (q1m3 (q1m2 d))):=qct (by
  intro S hS
  simp only [q1m3,List.mem_cons,List.not_mem_nil,or_false] at hS
  all_goals first | cases hS | exact hS.elim)
 have hC:OrcOK prog (orc (q1m3 (q1m2 d))):=hC0
 refine q8f (c:=qcz f124) (fn:=f124) hT (by kernel_rfl) (by kernel_rfl) (by decide) fun x r h w0 φ0 Q hend=>?_
 replace h:q1mx d x=some r:=h
 unfold q1mx at h
 show Run prog w0 φ0 39 (qcz f124) ⟨[(0,.agg [.bool x.1.1,.int .u64 x.1.2.1,.int .u64 x.1.2.2.1]),(1,.int .u64 x.2.1.1),(2,.int .u64 x.2.2.1.1)],[]⟩ Q
 refine q3yy hm hT hC (q1m9 (q1m2 d) (x.1.1,x.1.2.1,x.1.2.2.1,x.2.1.1,x.2.2.1.1)) h fun y0 h=>?_
 refine q7z ?_
 refine q3yy hm hT hC (q1md (q1m2 d) y0) h fun y1 h=>?_
 refine q83 (v:=y1.2.1) (by kernel_rfl) h ?_ ?_
 ·
  intro h
  refine q3yy hm hT hC (q1mh (q1m2 d) y1) h fun y2 h=>?_
  refine q7y (q7n ?_)
  cases h
  exact (hend _ (by kernel_rfl)).2
 ·
  intro h
  refine q7v (q7l ?_)
  refine q3yy hm hT hC (q1ml (q1m2 d) y1) h fun y3 h=>?_
  refine q82 (r:=r) (F:=q1mw d ) (S:=(fun z=>⟨[(6,.ptr 0 0),(8,.ptr 1 0)],[.cells [.int .i64 z.1,.int .i64 z.2.1],.cells [.int .i64 z.2.2.1,.int .i64 z.2.2.2]]⟩:q1mq→St)) ?_ ?_
  ·
   intro z h
   unfold q1mw at h
   refine q3yy hm hT hC (q1mv (q1m2 d) z) h fun y6 h=>?_
   refine q7y ?_
   cases h
   exact (hend _ (by kernel_rfl)).2
  intro hj1
  refine q3yy hm hT hC (q1mp (q1m2 d) y3) h fun y4 h=>?_
  refine q83 (v:=y4.1) (by kernel_rfl) h ?_ ?_
  ·
   intro h
   refine q84 hm hT hC (q1mt (q1m2 d) y4) h ?_
   intro y5 h
   exact hj1 _ h
  ·
   intro h
   refine q7v ?_
   refine qcy (s:=⟨[(6,.ptr 0 0),(8,.ptr 1 0)],[.cells [.int .i64 y4.2.1,.int .i64 y4.2.2.1],.cells [.int .i64 y4.2.2.2.1,.int .i64 y4.2.2.2.2]]⟩) [33] (by kernel_rfl) ?_
   exact hj1 _ h
abbrev q1mz:List Pk:=[.row Rii true,.row Rii true]
abbrev q1n0:Type:=Dii×Dii×Unit
abbrev q1n1:Type:=Int×Int×Int
def q1n2 (r:q1n1):LV×List Ob:=(.tup [.agg [.int .i64 r.1,.int .i64 r.2.1],.int .i64 r.2.2],[])
def q1n3 (F:q1n0→Option q1n1):Go.Tx.Spec:=⟨62,q1mz,q1n1,F,q1n2⟩
abbrev q1n4:Type:=(qy7→Option qy8)×(q1j3→Option q1j4)×(q1js→Option q1jt)×(q11h→Option q11i)×(q1l5→Option q1l6)×(qmh→Option qmi)×(q1lx→Option q1ly)×Unit
def q1n5 (d:Nat):q1n4:=(qyo d,q1jp d,q1l2 d,q122 d,q1lu d,qmm d,q1mx d,())
def q1n6 (C:q1n4):List Go.Tx.Spec:=[qya C.1,q1j6 C.2.1,q1jv C.2.2.1,q11k C.2.2.2.1,q1l8 C.2.2.2.2.1,qmk C.2.2.2.2.2.1,q1m0 C.2.2.2.2.2.2.1]
abbrev q1n7:Type:=Int×Int×Int×Int
def q1n8 (v:q1n7):St:=⟨[(0,.agg [.int .i64 v.1,.int .i64 v.2.1]),(1,.agg [.int .i64 v.2.2.1,.int .i64 v.2.2.2])],[]⟩
abbrev q1n9:Type:=Int×Int×Int×Int×Int×Int
def q1na (v:q1n9):St:=⟨[(2,.ptr 0 0),(3,.ptr 1 0),(4,.ptr 2 0)],[.cells [.int .i64 v.1,.int .i64 v.2.1],.cells [.int .i64 v.2.2.1,.int .i64 v.2.2.2.1],.cells [.int .i64 v.2.2.2.2.1,.int .i64 v.2.2.2.2.2]]⟩
def q1nb (C:q1n4) (v:q1n7):Dt q1n9:=(Dt.ret (v.1,v.2.1,v.2.2.1,v.2.2.2,(0:Int),(0:Int)))
abbrev q3zo {V Y:Type}:=@rg q1n4 V Y tysT (fun C=>(orc (q1n6 C))) 81
theorem q1nc C v:q3zo (regO (qcz f62) 0) false (an [2,3,4]) q1n8 q1nb q1na C v:=rgI (by kernel_rfl)
abbrev q1nd:Type:=Int×Int×Int×Int×Int×Int×Int
def q1ne (v:q1nd):St:=⟨[(2,.ptr 0 0),(3,.ptr 1 0),(4,.ptr 2 0),(6,.int .i64 v.1)],[.cells [.int .i64 v.2.1,.int .i64 v.2.2.1],.cells [.int .i64 v.2.2.2.1,.int .i64 v.2.2.2.2.1],.cells [.int .i64 v.2.2.2.2.2.1,.int .i64 v.2.2.2.2.2.2]]⟩
def q1nf (C:q1n4) (v:q1n9):Dt q1nd:=(Dt.bnd (C.1 ((v.1,v.2.1,()),(v.2.2.1,v.2.2.2.1,()),())) fun r1=>(Dt.ret (r1,v.1,v.2.1,v.2.2.1,v.2.2.2.1,v.2.2.2.2.1,v.2.2.2.2.2)))
theorem q1ng C v:q3zo (regO (qcz f62) 1) false (an [2,3,4,6]) q1na q1nf q1ne C v:=rgI (by kernel_rfl)
abbrev q1nh:Type:=Int×Bool×Int×Int×Int×Int×Int×Int
def q1ni (v:q1nh):St:=⟨[(2,.ptr 0 0),(3,.ptr 1 0),(4,.ptr 2 0),(6,.int .i64 v.1),(18,.bool v.2.1)],[.cells [.int .i64 v.2.2.1,.int .i64 v.2.2.2.1],.cells [.int .i64 v.2.2.2.2.1,.int .i64 v.2.2.2.2.2.1],.cells [.int .i64 v.2.2.2.2.2.2.1,.int .i64 v.2.2.2.2.2.2.2]]⟩
def q1nj (C:q1n4) (v:q1nd):Dt q1nh:=(Dt.ret (v.1,(v.1 != (0:Int)),v.2.1,v.2.2.1,v.2.2.2.1,v.2.2.2.2.1,v.2.2.2.2.2.1,v.2.2.2.2.2.2))
theorem q1nk C v:q3zo (regO (qcz f62) 2) false (an [2,3,4,6,18]) q1ne q1nj q1ni C v:=rgI (by kernel_rfl)
abbrev q1nl:Type:=Int×Int×Int
def q1nm (v:q1nl):St:=⟨[(4,.ptr 0 0),(5,.int .i64 v.1)],[.cells [.int .i64 v.2.1,.int .i64 v.2.2]]⟩
def q1nn (C:q1n4) (v:q1nh):Dt q1nl:=(Dt.ret (v.1,(0:Int),(0:Int)))
theorem q1no C v:q3zo (regO (qcz f62) 3) false (an [4,5]) q1ni q1nn q1nm C v:=rgI (by kernel_rfl)
abbrev q1np:Type:=Int×Int×Int×Int×Int×Int×Int
def q1nq (v:q1np):St:=⟨[(2,.ptr 0 0),(3,.ptr 1 0),(4,.ptr 2 0),(7,.int .i64 v.1)],[.cells [.int .i64 v.2.1,.int .i64 v.2.2.1],.cells [.int .i64 v.2.2.2.1,.int .i64 v.2.2.2.2.1],.cells [.int .i64 v.2.2.2.2.2.1,.int .i64 v.2.2.2.2.2.2]]⟩
def q1nr (C:q1n4) (v:q1nh):Dt q1np:=(Dt.bnd (C.2.1 (((IntKind.wrap .u64 v.2.2.2.1),()),((IntKind.wrap .u64 v.2.2.2.2.2.1),()),())) fun r1=>(Dt.ret ((IntKind.wrap .i64 r1),v.2.2.1,v.2.2.2.1,v.2.2.2.2.1,v.2.2.2.2.2.1,v.2.2.2.2.2.2.1,v.2.2.2.2.2.2.2)))
theorem q1ns C v:q3zo (regO (qcz f62) 4) false (an [2,3,4,7]) q1ni q1nr q1nq C v:=rgI (by kernel_rfl)
abbrev q1nt:Type:=Int×Int×Int×Int×Int×Int×Int×Bool×Int×Int
def q1nu (v:q1nt):St:=⟨[(2,.ptr 0 0),(3,.ptr 1 0),(4,.ptr 2 0),(7,.int .i64 v.1),(8,.ptr 3 0)],[.cells [.int .i64 v.2.1,.int .i64 v.2.2.1],.cells [.int .i64 v.2.2.2.1,.int .i64 v.2.2.2.2.1],.cells [.int .i64 v.2.2.2.2.2.1,.int .i64 v.2.2.2.2.2.2.1],.cells [.bool v.2.2.2.2.2.2.2.1,.int .u64 v.2.2.2.2.2.2.2.2.1,.int .u64 v.2.2.2.2.2.2.2.2.2]]⟩
def q1nv (C:q1n4) (v:q1np):Dt q1nt:=(Dt.ite (v.1 == (0:Int)) Dt.fail (Dt.bnd (C.2.2.2.1 ((v.2.1,()),((IntKind.wrap .i64 (Int.tdiv v.2.2.2.2.1 v.1)),()),())) fun r1=>(Dt.ite (v.1 == (0:Int)) Dt.fail (Dt.bnd (C.2.2.2.1 ((v.2.2.2.1,()),((IntKind.wrap .i64 (Int.tdiv v.2.2.1 v.1)),()),())) fun r2=>(Dt.bnd (C.2.2.1 ((r1.1,r1.2.1,r1.2.2,()),(r2.1,r2.2.1,r2.2.2,()),())) fun r3=>(Dt.ret (v.1,v.2.1,v.2.2.1,v.2.2.2.1,v.2.2.2.2.1,v.2.2.2.2.2.1,v.2.2.2.2.2.2,r3.1,r3.2.1,r3.2.2)))))))
theorem q1nw C v:q3zo (regO (qcz f62) 5) true (an [2,3,4,7,8]) q1nq q1nv q1nu C v:=rgI (by kernel_rfl)
abbrev q1nx:Type:=Int×Int×Int×Int×Int×Int×Int×Int×Bool×Int×Int
def q1ny (v:q1nx):St:=⟨[(2,.ptr 0 0),(3,.ptr 1 0),(4,.ptr 2 0),(7,.int .i64 v.1),(8,.ptr 3 0),(10,.int .u64 v.2.1)],[.cells [.int .i64 v.2.2.1,.int .i64 v.2.2.2.1],.cells [.int .i64 v.2.2.2.2.1,.int .i64 v.2.2.2.2.2.1],.cells [.int .i64 v.2.2.2.2.2.2.1,.int .i64 v.2.2.2.2.2.2.2.1],.cells [.bool v.2.2.2.2.2.2.2.2.1,.int .u64 v.2.2.2.2.2.2.2.2.2.1,.int .u64 v.2.2.2.2.2.2.2.2.2.2]]⟩
def q1nz (C:q1n4) (v:q1nt):Dt q1nx:=(Dt.bnd (C.2.2.2.2.1 ((v.2.2.2.2.2.2.2.1,v.2.2.2.2.2.2.2.2.1,v.2.2.2.2.2.2.2.2.2,()),((IntKind.wrap .u64 v.1),()),())) fun r1=>(Dt.ret (v.1,r1.2.2.2,v.2.1,v.2.2.1,v.2.2.2.1,v.2.2.2.2.1,v.2.2.2.2.2.1,v.2.2.2.2.2.2.1,v.2.2.2.2.2.2.2.1,v.2.2.2.2.2.2.2.2.1,v.2.2.2.2.2.2.2.2.2)))
theorem q1o0 C v:q3zo (regO (qcz f62) 6) false (an [2,3,4,7,8,10]) q1nu q1nz q1ny C v:=rgI (by kernel_rfl)
abbrev q1o1:Type:=Int×Int×Int×Int×Int×Int×Int×Int×Bool×Int×Int
def q1o2 (v:q1o1):St:=⟨[(2,.ptr 0 0),(3,.ptr 1 0),(4,.ptr 2 0),(7,.int .i64 v.1),(8,.ptr 3 0),(11,.int .u64 v.2.1)],[.cells [.int .i64 v.2.2.1,.int .i64 v.2.2.2.1],.cells [.int .i64 v.2.2.2.2.1,.int .i64 v.2.2.2.2.2.1],.cells [.int .i64 v.2.2.2.2.2.2.1,.int .i64 v.2.2.2.2.2.2.2.1],.cells [.bool v.2.2.2.2.2.2.2.2.1,.int .u64 v.2.2.2.2.2.2.2.2.2.1,.int .u64 v.2.2.2.2.2.2.2.2.2.2]]⟩
def q1o3 (C:q1n4) (v:q1nx):Dt q1o1:=(Dt.bnd (C.2.1 (((IntKind.wrap .u64 v.1),()),(v.2.1,()),())) fun r1=>(Dt.ret (v.1,r1,v.2.2.1,v.2.2.2.1,v.2.2.2.2.1,v.2.2.2.2.2.1,v.2.2.2.2.2.2.1,v.2.2.2.2.2.2.2.1,v.2.2.2.2.2.2.2.2.1,v.2.2.2.2.2.2.2.2.2.1,v.2.2.2.2.2.2.2.2.2.2)))
theorem q1o4 C v:q3zo (regO (qcz f62) 7) false (an [2,3,4,7,8,11]) q1ny q1o3 q1o2 C v:=rgI (by kernel_rfl)
def q1o5 (C:q1n4) (v:q1o1):Dt q1o1:=(Dt.bnd (C.2.2.2.2.1 ((v.2.2.2.2.2.2.2.2.1,v.2.2.2.2.2.2.2.2.2.1,v.2.2.2.2.2.2.2.2.2.2,()),(v.2.1,()),())) fun r1=>(Dt.ret (v.1,v.2.1,v.2.2.1,v.2.2.2.1,v.2.2.2.2.1,v.2.2.2.2.2.1,v.2.2.2.2.2.2.1,v.2.2.2.2.2.2.2.1,r1.1,r1.2.1,r1.2.2.1)))
theorem q1o6 C v:q3zo (regO (qcz f62) 8) false (an [2,3,4,7,8,11]) q1o2 q1o5 q1o2 C v:=rgI (by kernel_rfl)
abbrev q1o7:Type:=Int×Int×Int×Int×Bool×Int×Int
def q1o8 (v:q1o7):St:=⟨[(4,.ptr 0 0),(8,.ptr 1 0),(12,.int .u64 v.1),(13,.int .u64 v.2.1)],[.cells [.int .i64 v.2.2.1,.int .i64 v.2.2.2.1],.cells [.bool v.2.2.2.2.1,.int .u64 v.2.2.2.2.2.1,.int .u64 v.2.2.2.2.2.2]]⟩
def q1o9 (C:q1n4) (v:q1o1):Dt q1o7:=(Dt.ite (v.1 == (0:Int)) Dt.fail (Dt.ite (v.2.1 == (0:Int)) Dt.fail (Dt.bnd (C.2.2.2.2.2.1 (((IntKind.wrap .u64 (IntKind.wrap .i64 (Int.tdiv v.2.2.2.1 v.1))),()),((IntKind.wrap .u64 (Int.tdiv (IntKind.wrap .u64 v.2.2.2.2.2.1) v.2.1)),()),())) fun r1=>(Dt.ret (r1.1,r1.2,v.2.2.2.2.2.2.1,v.2.2.2.2.2.2.2.1,v.2.2.2.2.2.2.2.2.1,v.2.2.2.2.2.2.2.2.2.1,v.2.2.2.2.2.2.2.2.2.2)))))
theorem q1oa C v:q3zo (regO (qcz f62) 9) true (an [4,8,12,13]) q1o2 q1o9 q1o8 C v:=rgI (by kernel_rfl)
def q1ob (C:q1n4) (v:q1o7):Dt q1nl:=(Dt.bnd (C.2.2.2.2.2.2.1 ((v.2.2.2.2.1,v.2.2.2.2.2.1,v.2.2.2.2.2.2,()),(v.1,()),(v.2.1,()),())) fun r1=>(Dt.ret (r1.2.2,r1.1,r1.2.1)))
theorem q1oc C v:q3zo (regO (qcz f62) 10) false (an [4,5]) q1o8 q1ob q1nm C v:=rgI (by kernel_rfl)
def q1od (d:Nat) (x:q1n0):Option q1n1 :=
 (q1nb (q1n5 d) (x.1.1,x.1.2.1,x.2.1.1,x.2.1.2.1)).eval fun y0 =>
 (q1nf (q1n5 d) y0).eval fun y1 =>
 (q1nj (q1n5 d) y1).eval fun y2 =>
 bif y2.2.1 then ((q1nn (q1n5 d) y2).eval fun y3 =>
 some (y3.2.1,y3.2.2,y3.1)) else ((q1nr (q1n5 d) y2).eval fun y4 =>
 (q1nv (q1n5 d) y4).eval fun y5 =>
 (q1nz (q1n5 d) y5).eval fun y6 =>
 (q1o3 (q1n5 d) y6).eval fun y7 =>
 (q1o5 (q1n5 d) y7).eval fun y8 =>
 (q1o9 (q1n5 d) y8).eval fun y9 =>
 (q1ob (q1n5 d) y9).eval fun y10 =>
 some (y10.2.1,y10.2.2,y10.1))
theorem q1oe (d:Nat):COK prog (q1n3 (q1od d)):=by
 have hm:prog.follows .mixedOrders=true:=qju
 have hT:=tys
 have hC0:OrcOK prog (orc (q1n6 (q1n5 d))):=qct (by
  intro S hS
  simp only [q1n6,List.mem_cons,List.not_mem_nil,or_false] at hS
  rcases hS with rfl | rfl | rfl | rfl | rfl | rfl | rfl
  · exact qyp d
  · exact q1jq d
  · exact q1l3 d
  · exact q123 d
  · exact q1lv d
  · exact qmo d
  · exact q1my d)
 have hC:OrcOK prog (orc (q1n6 (q1n5 d))):=hC0
 refine q8f (c:=qcz f62) (fn:=f62) hT (by kernel_rfl) (by kernel_rfl) (by decide) fun x r h w0 φ0 Q hend=>?_
 replace h:q1od d x=some r:=h
 unfold q1od at h
 show Run prog w0 φ0 81 (qcz f62) ⟨[(0,.agg [.int .i64 x.1.1,.int .i64 x.1.2.1]),(1,.agg [.int .i64 x.2.1.1,.int .i64 x.2.1.2.1])],[]⟩ Q
 refine q3yy hm hT hC (q1nc (q1n5 d) (x.1.1,x.1.2.1,x.2.1.1,x.2.1.2.1)) h fun y0 h=>?_
 refine q7z ?_
 refine q3yy hm hT hC (q1ng (q1n5 d) y0) h fun y1 h=>?_
 refine q3yy hm hT hC (q1nk (q1n5 d) y1) h fun y2 h=>?_
 refine q83 (v:=y2.2.1) (by kernel_rfl) h ?_ ?_
 ·
  intro h
  refine q3yy hm hT hC (q1no (q1n5 d) y2) h fun y3 h=>?_
  refine q7y (q7n ?_)
  cases h
  exact (hend _ (by kernel_rfl)).2
 ·
  intro h
  refine q7v (q7l ?_)
  refine q3yy hm hT hC (q1ns (q1n5 d) y2) h fun y4 h=>?_
  refine q3yy hm hT hC (q1nw (q1n5 d) y4) h fun y5 h=>?_
  refine q3yy hm hT hC (q1o0 (q1n5 d) y5) h fun y6 h=>?_
  refine q3yy hm hT hC (q1o4 (q1n5 d) y6) h fun y7 h=>?_
  refine q3yy hm hT hC (q1o6 (q1n5 d) y7) h fun y8 h=>?_
  refine q3yy hm hT hC (q1oa (q1n5 d) y8) h fun y9 h=>?_
  refine q3yy hm hT hC (q1oc (q1n5 d) y9) h fun y10 h=>?_
  refine q7y ?_
  cases h
  exact (hend _ (by kernel_rfl)).2
abbrev q1of:List Pk:=[.row Rii true,.row Rii true]
abbrev q1og:Type:=Dii×Dii×Unit
abbrev q1oh:Type:=Int×Int×Int
def q1oi (r:q1oh):LV×List Ob:=(.tup [.agg [.int .i64 r.1,.int .i64 r.2.1],.int .i64 r.2.2],[])
def q1oj (F:q1og→Option q1oh):Go.Tx.Spec:=⟨61,q1of,q1oh,F,q1oi⟩
abbrev q1ok:Type:=(q1n0→Option q1n1)×(qy7→Option qy8)×Unit
def q1ol (d:Nat):q1ok:=(q1od d,qyo d,())
def q1om (C:q1ok):List Go.Tx.Spec:=[q1n3 C.1,qya C.2.1]
abbrev q1on:Type:=Int×Int×Int×Int
def q1oo (v:q1on):St:=⟨[(0,.agg [.int .i64 v.1,.int .i64 v.2.1]),(1,.agg [.int .i64 v.2.2.1,.int .i64 v.2.2.2])],[]⟩
abbrev q1op:Type:=Int×Int×Int×Int×Int×Int
def q1oq (v:q1op):St:=⟨[(2,.ptr 0 0),(3,.ptr 1 0),(4,.ptr 2 0)],[.cells [.int .i64 v.1,.int .i64 v.2.1],.cells [.int .i64 v.2.2.1,.int .i64 v.2.2.2.1],.cells [.int .i64 v.2.2.2.2.1,.int .i64 v.2.2.2.2.2]]⟩
def q1or (C:q1ok) (v:q1on):Dt q1op:=(Dt.ret (v.1,v.2.1,v.2.2.1,v.2.2.2,(0:Int),(0:Int)))
abbrev q3zp {V Y:Type}:=@rg q1ok V Y tysT (fun C=>(orc (q1om C))) 23
theorem q1os C v:q3zp (regO (qcz f61) 0) false (an [2,3,4]) q1oo q1or q1oq C v:=rgI (by kernel_rfl)
abbrev q1ot:Type:=Int×Int×Int×Int×Int×Int×Int
def q1ou (v:q1ot):St:=⟨[(2,.ptr 0 0),(3,.ptr 1 0),(4,.ptr 2 0),(6,.int .i64 v.1)],[.cells [.int .i64 v.2.1,.int .i64 v.2.2.1],.cells [.int .i64 v.2.2.2.1,.int .i64 v.2.2.2.2.1],.cells [.int .i64 v.2.2.2.2.2.1,.int .i64 v.2.2.2.2.2.2]]⟩
def q1ov (C:q1ok) (v:q1op):Dt q1ot:=(Dt.bnd (C.2.1 ((v.1,v.2.1,()),(v.2.2.1,v.2.2.2.1,()),())) fun r1=>(Dt.ret (r1,v.1,v.2.1,v.2.2.1,v.2.2.2.1,v.2.2.2.2.1,v.2.2.2.2.2)))
theorem q1ow C v:q3zp (regO (qcz f61) 1) false (an [2,3,4,6]) q1oq q1ov q1ou C v:=rgI (by kernel_rfl)
abbrev q1ox:Type:=Int×Bool×Int×Int×Int×Int×Int×Int
def q1oy (v:q1ox):St:=⟨[(2,.ptr 0 0),(3,.ptr 1 0),(4,.ptr 2 0),(6,.int .i64 v.1),(11,.bool v.2.1)],[.cells [.int .i64 v.2.2.1,.int .i64 v.2.2.2.1],.cells [.int .i64 v.2.2.2.2.1,.int .i64 v.2.2.2.2.2.1],.cells [.int .i64 v.2.2.2.2.2.2.1,.int .i64 v.2.2.2.2.2.2.2]]⟩
def q1oz (C:q1ok) (v:q1ot):Dt q1ox:=(Dt.ret (v.1,(v.1 != (0:Int)),v.2.1,v.2.2.1,v.2.2.2.1,v.2.2.2.2.1,v.2.2.2.2.2.1,v.2.2.2.2.2.2))
theorem q1p0 C v:q3zp (regO (qcz f61) 2) false (an [2,3,4,6,11]) q1ou q1oz q1oy C v:=rgI (by kernel_rfl)
abbrev q1p1:Type:=Int×Int×Int
def q1p2 (v:q1p1):St:=⟨[(4,.ptr 0 0),(5,.int .i64 v.1)],[.cells [.int .i64 v.2.1,.int .i64 v.2.2]]⟩
def q1p3 (C:q1ok) (v:q1ox):Dt q1p1:=(Dt.ret (v.1,(0:Int),(0:Int)))
theorem q1p4 C v:q3zp (regO (qcz f61) 3) false (an [4,5]) q1oy q1p3 q1p2 C v:=rgI (by kernel_rfl)
def q1p5 (C:q1ok) (v:q1ox):Dt q1op:=(Dt.ret (v.2.2.1,v.2.2.2.1,(IntKind.wrap .i64 (0 - v.2.2.2.2.1)),v.2.2.2.2.2.1,v.2.2.2.2.2.2.1,v.2.2.2.2.2.2.2))
theorem q1p6 C v:q3zp (regO (qcz f61) 4) false (an [2,3,4]) q1oy q1p5 q1oq C v:=rgI (by kernel_rfl)
def q1p7 (C:q1ok) (v:q1op):Dt q1p1:=(Dt.bnd (C.1 ((v.1,v.2.1,()),(v.2.2.1,v.2.2.2.1,()),())) fun r1=>(Dt.ret (r1.2.2,r1.1,r1.2.1)))
theorem q1p8 C v:q3zp (regO (qcz f61) 5) false (an [4,5]) q1oq q1p7 q1p2 C v:=rgI (by kernel_rfl)
def q1p9 (d:Nat) (x:q1og):Option q1oh :=
 (q1or (q1ol d) (x.1.1,x.1.2.1,x.2.1.1,x.2.1.2.1)).eval fun y0 =>
 (q1ov (q1ol d) y0).eval fun y1 =>
 (q1oz (q1ol d) y1).eval fun y2 =>
 bif y2.2.1 then ((q1p3 (q1ol d) y2).eval fun y3 =>
 some (y3.2.1,y3.2.2,y3.1)) else ((q1p5 (q1ol d) y2).eval fun y4 =>
 (q1p7 (q1ol d) y4).eval fun y5 =>
 some (y5.2.1,y5.2.2,y5.1))
theorem q1pa (d:Nat):COK prog (q1oj (q1p9 d)):=by
 have hm:prog.follows .mixedOrders=true:=qju
 have hT:=tys
 have hC0:OrcOK prog (orc (q1om (q1ol d))):=qct (by
  intro S hS
  simp only [q1om,List.mem_cons,List.not_mem_nil,or_false] at hS
  rcases hS with rfl | rfl
  · exact q1oe d
  · exact qyp d)
 have hC:OrcOK prog (orc (q1om (q1ol d))):=hC0
 refine q8f (c:=qcz f61) (fn:=f61) hT (by kernel_rfl) (by kernel_rfl) (by decide) fun x r h w0 φ0 Q hend=>?_
 replace h:q1p9 d x=some r:=h
 unfold q1p9 at h
 show Run prog w0 φ0 23 (qcz f61) ⟨[(0,.agg [.int .i64 x.1.1,.int .i64 x.1.2.1]),(1,.agg [.int .i64 x.2.1.1,.int .i64 x.2.1.2.1])],[]⟩ Q
 refine q3yy hm hT hC (q1os (q1ol d) (x.1.1,x.1.2.1,x.2.1.1,x.2.1.2.1)) h fun y0 h=>?_
 refine q7z ?_
 refine q3yy hm hT hC (q1ow (q1ol d) y0) h fun y1 h=>?_
 refine q3yy hm hT hC (q1p0 (q1ol d) y1) h fun y2 h=>?_
 refine q83 (v:=y2.2.1) (by kernel_rfl) h ?_ ?_
 ·
  intro h
  refine q3yy hm hT hC (q1p4 (q1ol d) y2) h fun y3 h=>?_
  refine q7y (q7n ?_)
  cases h
  exact (hend _ (by kernel_rfl)).2
 ·
  intro h
  refine q7v (q7l ?_)
  refine q3yy hm hT hC (q1p6 (q1ol d) y2) h fun y4 h=>?_
  refine q3yy hm hT hC (q1p8 (q1ol d) y4) h fun y5 h=>?_
  refine q7y ?_
  cases h
  exact (hend _ (by kernel_rfl)).2
abbrev q1pb:List Pk:=[.row Riii true,.row Rii true]
abbrev q1pc:Type:=Diii×Dii×Unit
abbrev q1pd:Type:=Int×Int×Int
def q1pe (r:q1pd):LV×List Ob:=(.tup [.agg [.int .i64 r.1,.int .i64 r.2.1],.int .i64 r.2.2],[])
def q1pf (F:q1pc→Option q1pd):Go.Tx.Spec:=⟨52,q1pb,q1pd,F,q1pe⟩
abbrev q1pg:Type:=(qnz→Option qo0)×(qmz→Option qn0)×(q1iu→Option q1iv)×(q1i8→Option q1i9)×(q1f4→Option q1f5)×Unit
def q1ph (d:Nat):q1pg:=(qo4 d,qn4 d,q1iz d,q1ir d,q1i5 d,())
def q1pi (C:q1pg):List Go.Tx.Spec:=[qo2 C.1,qn2 C.2.1,q1ix C.2.2.1,q1ib C.2.2.2.1,q1f7 C.2.2.2.2.1]
abbrev q1pj:Type:=Int×Int×Int×Int×Int
def q1pk (v:q1pj):St:=⟨[(0,.agg [.int .i64 v.1,.int .i64 v.2.1,.int .i64 v.2.2.1]),(1,.agg [.int .i64 v.2.2.2.1,.int .i64 v.2.2.2.2])],[]⟩
abbrev q1pl:Type:=Int×Int×Int×Int×Int×Int×Int
def q1pm (v:q1pl):St:=⟨[(2,.ptr 0 0),(3,.ptr 1 0),(4,.ptr 2 0)],[.cells [.int .i64 v.1,.int .i64 v.2.1,.int .i64 v.2.2.1],.cells [.int .i64 v.2.2.2.1,.int .i64 v.2.2.2.2.1],.cells [.int .i64 v.2.2.2.2.2.1,.int .i64 v.2.2.2.2.2.2]]⟩
def q1pn (C:q1pg) (v:q1pj):Dt q1pl:=(Dt.ret (v.1,v.2.1,v.2.2.1,v.2.2.2.1,v.2.2.2.2,(0:Int),(0:Int)))
abbrev q3zq {V Y:Type}:=@rg q1pg V Y tysT (fun C=>(orcI 106 q1d4 (orc (q1pi C)))) 111
theorem q1po C v:q3zq (regO (qcz f52) 0) false (an [2,3,4]) q1pk q1pn q1pm C v:=rgI (by kernel_rfl)
abbrev q1pp:Type:=Int×Int×Int×Int×Int×Int×Int×Int
def q1pq (v:q1pp):St:=⟨[(2,.ptr 0 0),(3,.ptr 1 0),(4,.ptr 2 0),(6,.int .i64 v.1)],[.cells [.int .i64 v.2.1,.int .i64 v.2.2.1,.int .i64 v.2.2.2.1],.cells [.int .i64 v.2.2.2.2.1,.int .i64 v.2.2.2.2.2.1],.cells [.int .i64 v.2.2.2.2.2.2.1,.int .i64 v.2.2.2.2.2.2.2]]⟩
def q1pr (C:q1pg) (v:q1pl):Dt q1pp:=(Dt.bnd (C.1 ((v.1,v.2.1,v.2.2.1,()),())) fun r1=>(Dt.bnd (C.2.1 ((v.2.2.2.1,v.2.2.2.2.1,()),())) fun r2=>(Dt.ret ((tmax r1 r2),v.1,v.2.1,v.2.2.1,v.2.2.2.1,v.2.2.2.2.1,v.2.2.2.2.2.1,v.2.2.2.2.2.2))))
theorem q1ps C v:q3zq (regO (qcz f52) 1) true (an [2,3,4,6]) q1pm q1pr q1pq C v:=rgI (by kernel_rfl)
abbrev q1pt:Type:=Int×Bool×Int×Int×Int×Int×Int×Int×Int
def q1pu (v:q1pt):St:=⟨[(2,.ptr 0 0),(3,.ptr 1 0),(4,.ptr 2 0),(6,.int .i64 v.1),(24,.bool v.2.1)],[.cells [.int .i64 v.2.2.1,.int .i64 v.2.2.2.1,.int .i64 v.2.2.2.2.1],.cells [.int .i64 v.2.2.2.2.2.1,.int .i64 v.2.2.2.2.2.2.1],.cells [.int .i64 v.2.2.2.2.2.2.2.1,.int .i64 v.2.2.2.2.2.2.2.2]]⟩
def q1pv (C:q1pg) (v:q1pp):Dt q1pt:=(Dt.ret (v.1,(v.1 != (0:Int)),v.2.1,v.2.2.1,v.2.2.2.1,v.2.2.2.2.1,v.2.2.2.2.2.1,v.2.2.2.2.2.2.1,v.2.2.2.2.2.2.2))
theorem q1pw C v:q3zq (regO (qcz f52) 2) false (an [2,3,4,6,24]) q1pq q1pv q1pu C v:=rgI (by kernel_rfl)
abbrev q1px:Type:=Int×Int×Int
def q1py (v:q1px):St:=⟨[(4,.ptr 0 0),(5,.int .i64 v.1)],[.cells [.int .i64 v.2.1,.int .i64 v.2.2]]⟩
def q1pz (C:q1pg) (v:q1pt):Dt q1px:=(Dt.ret (v.1,(0:Int),(0:Int)))
theorem q1q0 C v:q3zq (regO (qcz f52) 3) false (an [4,5]) q1pu q1pz q1py C v:=rgI (by kernel_rfl)
abbrev q1q1:Type:=Int×Int×Int×Int×Int×Int
def q1q2 (v:q1q1):St:=⟨[(3,.ptr 0 0),(4,.ptr 1 0),(7,.ptr 2 0)],[.cells [.int .i64 v.1,.int .i64 v.2.1],.cells [.int .i64 v.2.2.1,.int .i64 v.2.2.2.1],.cells [.int .i64 v.2.2.2.2.1,.int .u64 v.2.2.2.2.2]]⟩
def q1q3 (C:q1pg) (v:q1pt):Dt q1q1:=(Dt.bnd (C.2.2.1 ((v.2.2.2.1,v.2.2.2.2.2.2.1,v.2.2.2.2.1,v.2.2.2.2.2.1,()),())) fun r1=>(Dt.ret (v.2.2.2.2.2.1,v.2.2.2.2.2.2.1,v.2.2.2.2.2.2.2.1,v.2.2.2.2.2.2.2.2,r1.1,r1.2)))
theorem q1q4 C v:q3zq (regO (qcz f52) 4) false (an [3,4,7]) q1pu q1q3 q1q2 C v:=rgI (by kernel_rfl)
abbrev q1q5:Type:=Bool×Int×Int×Int×Int×Int×Int
def q1q6 (v:q1q5):St:=⟨[(3,.ptr 0 0),(4,.ptr 1 0),(7,.ptr 2 0),(8,.bool v.1)],[.cells [.int .i64 v.2.1,.int .i64 v.2.2.1],.cells [.int .i64 v.2.2.2.1,.int .i64 v.2.2.2.2.1],.cells [.int .i64 v.2.2.2.2.2.1,.int .u64 v.2.2.2.2.2.2]]⟩
def q1q7 (C:q1pg) (v:q1q1):Dt q1q5:=(Dt.ret ((decide (v.2.2.2.2.1 < (0:Int))),v.1,v.2.1,v.2.2.1,v.2.2.2.1,v.2.2.2.2.1,v.2.2.2.2.2))
theorem q1q8 C v:q3zq (regO (qcz f52) 5) false (an [3,4,7,8]) q1q2 q1q7 q1q6 C v:=rgI (by kernel_rfl)
abbrev q1q9:Type:=Bool×Bool×Int×Int×Int×Int×Int×Int
def q1qa (v:q1q9):St:=⟨[(3,.ptr 0 0),(4,.ptr 1 0),(7,.ptr 2 0),(8,.bool v.1),(42,.bool v.2.1)],[.cells [.int .i64 v.2.2.1,.int .i64 v.2.2.2.1],.cells [.int .i64 v.2.2.2.2.1,.int .i64 v.2.2.2.2.2.1],.cells [.int .i64 v.2.2.2.2.2.2.1,.int .u64 v.2.2.2.2.2.2.2]]⟩
def q1qb (C:q1pg) (v:q1q5):Dt q1q9:=(Dt.ret (v.1,v.1,v.2.1,v.2.2.1,v.2.2.2.1,v.2.2.2.2.1,v.2.2.2.2.2.1,v.2.2.2.2.2.2))
theorem q1qc C v:q3zq (regO (qcz f52) 6) false (an [3,4,7,8,42]) q1q6 q1qb q1qa C v:=rgI (by kernel_rfl)
abbrev q1qd:Type:=Bool×Int×Int×Int×Int×Int×Int×Int×Int
def q1qe (v:q1qd):St:=⟨[(3,.ptr 0 0),(4,.ptr 1 0),(7,.ptr 2 0),(8,.bool v.1),(9,.int .u64 v.2.1),(10,.int .u64 v.2.2.1)],[.cells [.int .i64 v.2.2.2.1,.int .i64 v.2.2.2.2.1],.cells [.int .i64 v.2.2.2.2.2.1,.int .i64 v.2.2.2.2.2.2.1],.cells [.int .i64 v.2.2.2.2.2.2.2.1,.int .u64 v.2.2.2.2.2.2.2.2]]⟩
def q1qf (C:q1pg) (v:q1q9):Dt q1qd:=(Dt.bnd (q1d4 ((0:Int)) (v.2.2.2.2.2.2.2) ((0:Int))) fun r1=>(Dt.ret (v.1,r1.1,r1.2,v.2.2.1,v.2.2.2.1,v.2.2.2.2.1,v.2.2.2.2.2.1,v.2.2.2.2.2.2.1,v.2.2.2.2.2.2.2)))
theorem q1qg C v:q3zq (regO (qcz f52) 7) false (an [3,4,7,8,9,10]) q1qa q1qf q1qe C v:=rgI (by kernel_rfl)
def q1qh (C:q1pg) (v:q1qd):Dt q1q5:=(Dt.ret (v.1,v.2.2.2.1,v.2.2.2.2.1,v.2.2.2.2.2.1,v.2.2.2.2.2.2.1,(IntKind.wrap .i64 ((IntKind.wrap .i64 (0 - v.2.2.2.2.2.2.2.1)) - (IntKind.wrap .i64 v.2.2.1))),v.2.1))
theorem q1qi C v:q3zq (regO (qcz f52) 8) false (an [3,4,7,8]) q1qe q1qh q1q6 C v:=rgI (by kernel_rfl)
abbrev q1qj:Type:=Bool×Int×Int×Int×Int×Int
def q1qk (v:q1qj):St:=⟨[(4,.ptr 0 0),(7,.ptr 1 0),(8,.bool v.1),(11,.int .u64 v.2.1)],[.cells [.int .i64 v.2.2.1,.int .i64 v.2.2.2.1],.cells [.int .i64 v.2.2.2.2.1,.int .u64 v.2.2.2.2.2]]⟩
def q1ql (C:q1pg) (v:q1q5):Dt q1qj:=(Dt.ret (v.1,(IntKind.wrap .u64 v.2.2.1),v.2.2.2.1,v.2.2.2.2.1,v.2.2.2.2.2.1,v.2.2.2.2.2.2))
theorem q1qm C v:q3zq (regO (qcz f52) 9) false (an [4,7,8,11]) q1q6 q1ql q1qk C v:=rgI (by kernel_rfl)
abbrev q1qn:Type:=Bool×Int×Int×Int×Int×Int×Int
def q1qo (v:q1qn):St:=⟨[(4,.ptr 0 0),(7,.ptr 1 0),(8,.bool v.1),(11,.int .u64 v.2.1),(12,.int .u64 v.2.2.1)],[.cells [.int .i64 v.2.2.2.1,.int .i64 v.2.2.2.2.1],.cells [.int .i64 v.2.2.2.2.2.1,.int .u64 v.2.2.2.2.2.2]]⟩
def q1qp (C:q1pg) (v:q1qj):Dt q1qn:=(Dt.bnd (C.2.2.2.1 (((IntKind.wrap .u64 v.2.2.2.2.1),()),(v.2.2.2.2.2,()),(v.2.1,()),())) fun r1=>(Dt.ret (v.1,v.2.1,r1,v.2.2.1,v.2.2.2.1,v.2.2.2.2.1,v.2.2.2.2.2)))
theorem q1qq C v:q3zq (regO (qcz f52) 10) false (an [4,7,8,11,12]) q1qk q1qp q1qo C v:=rgI (by kernel_rfl)
abbrev q1qr:Type:=Bool×Int×Int×Int×Int×Int×Int×Int
def q1qs (v:q1qr):St:=⟨[(4,.ptr 0 0),(7,.ptr 1 0),(8,.bool v.1),(11,.int .u64 v.2.1),(12,.int .u64 v.2.2.1),(13,.int .u64 v.2.2.2.1)],[.cells [.int .i64 v.2.2.2.2.1,.int .i64 v.2.2.2.2.2.1],.cells [.int .i64 v.2.2.2.2.2.2.1,.int .u64 v.2.2.2.2.2.2.2]]⟩
def q1qt (C:q1pg) (v:q1qn):Dt q1qr:=(Dt.ret (v.1,v.2.1,v.2.2.1,v.2.1,v.2.2.2.1,v.2.2.2.2.1,v.2.2.2.2.2.1,v.2.2.2.2.2.2))
theorem q1qu C v:q3zq (regO (qcz f52) 11) false (an [4,7,8,11,12,13]) q1qo q1qt q1qs C v:=rgI (by kernel_rfl)
abbrev q1qv:Type:=Bool×Int×Int×Int×Bool×Int×Int×Int×Int
def q1qw (v:q1qv):St:=⟨[(4,.ptr 0 0),(7,.ptr 1 0),(8,.bool v.1),(11,.int .u64 v.2.1),(12,.int .u64 v.2.2.1),(13,.int .u64 v.2.2.2.1),(69,.bool v.2.2.2.2.1)],[.cells [.int .i64 v.2.2.2.2.2.1,.int .i64 v.2.2.2.2.2.2.1],.cells [.int .i64 v.2.2.2.2.2.2.2.1,.int .u64 v.2.2.2.2.2.2.2.2]]⟩
def q1qx (C:q1pg) (v:q1qr):Dt q1qv:=(Dt.ret (v.1,v.2.1,v.2.2.1,v.2.2.2.1,(decide (v.2.2.1 > (0:Int))),v.2.2.2.2.1,v.2.2.2.2.2.1,v.2.2.2.2.2.2.1,v.2.2.2.2.2.2.2))
theorem q1qy C v:q3zq (regO (qcz f52) 12) false (an [4,7,8,11,12,13,69]) q1qs q1qx q1qw C v:=rgI (by kernel_rfl)
def q1qz (C:q1pg) (v:q1qv):Dt q1qr:=(Dt.ite (v.2.2.1 == (0:Int)) Dt.fail (Dt.ret (v.1,v.2.1,(Int.tmod v.2.2.2.1 v.2.2.1),v.2.2.1,v.2.2.2.2.2.1,v.2.2.2.2.2.2.1,v.2.2.2.2.2.2.2.1,v.2.2.2.2.2.2.2.2)))
theorem q1r0 C v:q3zq (regO (qcz f52) 13) true (an [4,7,8,11,12,13]) q1qw q1qz q1qs C v:=rgI (by kernel_rfl)
abbrev q1r1:Type:=Bool×Int×Int×Int×Int×Int×Int×Int
def q1r2 (v:q1r1):St:=⟨[(4,.ptr 0 0),(7,.ptr 1 0),(8,.bool v.1),(11,.int .u64 v.2.1),(13,.int .u64 v.2.2.1),(14,.int .u64 v.2.2.2.1)],[.cells [.int .i64 v.2.2.2.2.1,.int .i64 v.2.2.2.2.2.1],.cells [.int .i64 v.2.2.2.2.2.2.1,.int .u64 v.2.2.2.2.2.2.2]]⟩
def q1r3 (C:q1pg) (v:q1qv):Dt q1r1:=(Dt.ite (v.2.2.2.1 == (0:Int)) Dt.fail (Dt.ret (v.1,v.2.1,v.2.2.2.1,(IntKind.wrap .u64 (Int.tdiv (IntKind.wrap .u64 v.2.2.2.2.2.2.2.1) v.2.2.2.1)),v.2.2.2.2.2.1,v.2.2.2.2.2.2.1,v.2.2.2.2.2.2.2.1,v.2.2.2.2.2.2.2.2)))
theorem q1r4 C v:q3zq (regO (qcz f52) 14) false (an [4,7,8,11,13,14]) q1qw q1r3 q1r2 C v:=rgI (by kernel_rfl)
abbrev q1r5:Type:=Bool×Int×Int×Int×Int×Int×Int
def q1r6 (v:q1r5):St:=⟨[(4,.ptr 0 0),(8,.bool v.1),(11,.int .u64 v.2.1),(13,.int .u64 v.2.2.1),(14,.int .u64 v.2.2.2.1),(15,.int .u64 v.2.2.2.2.1)],[.cells [.int .i64 v.2.2.2.2.2.1,.int .i64 v.2.2.2.2.2.2]]⟩
def q1r7 (C:q1pg) (v:q1r1):Dt q1r5:=(Dt.ite (v.2.2.1 == (0:Int)) Dt.fail (Dt.bnd (C.2.2.2.2.1 (((Int.tmod (IntKind.wrap .u64 v.2.2.2.2.2.2.1) v.2.2.1),()),(v.2.2.2.2.2.2.2,()),(v.2.2.1,()),())) fun r1=>(Dt.ret (v.1,v.2.1,v.2.2.1,v.2.2.2.1,r1.1,v.2.2.2.2.1,v.2.2.2.2.2.1))))
theorem q1r8 C v:q3zq (regO (qcz f52) 15) true (an [4,8,11,13,14,15]) q1r2 q1r7 q1r6 C v:=rgI (by kernel_rfl)
abbrev q1r9:Type:=Bool×Int×Int×Int×Bool×Int×Int
def q1ra (v:q1r9):St:=⟨[(4,.ptr 0 0),(8,.bool v.1),(11,.int .u64 v.2.1),(13,.int .u64 v.2.2.1),(15,.int .u64 v.2.2.2.1),(96,.bool v.2.2.2.2.1)],[.cells [.int .i64 v.2.2.2.2.2.1,.int .i64 v.2.2.2.2.2.2]]⟩
def q1rb (C:q1pg) (v:q1r5):Dt q1r9:=(Dt.ite (decide (v.2.2.2.1 > (0:Int))) (Dt.ret (v.1,v.2.1,v.2.2.1,v.2.2.2.2.1,true,v.2.2.2.2.2.1,v.2.2.2.2.2.2)) (Dt.ret (v.1,v.2.1,v.2.2.1,v.2.2.2.2.1,(decide (v.2.2.2.2.1 > (9223372036854775807:Int))),v.2.2.2.2.2.1,v.2.2.2.2.2.2)))
theorem q1rc C v:q3zq (regO (qcz f52) 16) false (an [4,8,11,13,15,96]) q1r6 q1rb q1ra C v:=rgI (by kernel_rfl)
def q1rd (C:q1pg) (v:q1r9):Dt q1px:=(Dt.ret ((16:Int),(0:Int),(0:Int)))
theorem q1re C v:q3zq (regO (qcz f52) 17) false (an [4,5]) q1ra q1rd q1py C v:=rgI (by kernel_rfl)
abbrev q1rf:Type:=Bool×Int×Int×Int×Int
def q1rg (v:q1rf):St:=⟨[(4,.ptr 0 0),(8,.bool v.1),(17,.ptr 1 0)],[.cells [.int .i64 v.2.1,.int .i64 v.2.2.1],.cells [.int .i64 v.2.2.2.1,.int .i64 v.2.2.2.2]]⟩
def q1rh (C:q1pg) (v:q1r9):Dt q1rf:=(Dt.ite (v.2.2.1 == (0:Int)) Dt.fail (Dt.ret (v.1,v.2.2.2.2.2.1,v.2.2.2.2.2.2,(IntKind.wrap .i64 v.2.2.2.1),(IntKind.wrap .i64 (IntKind.wrap .u64 (Int.tdiv v.2.1 v.2.2.1))))))
theorem q1ri C v:q3zq (regO (qcz f52) 18) false (an [4,8,17]) q1ra q1rh q1rg C v:=rgI (by kernel_rfl)
abbrev q1rj:Type:=Bool×Int×Int×Int×Int
def q1rk (v:q1rj):St:=⟨[(4,.ptr 0 0),(17,.ptr 1 0),(105,.bool v.1)],[.cells [.int .i64 v.2.1,.int .i64 v.2.2.1],.cells [.int .i64 v.2.2.2.1,.int .i64 v.2.2.2.2]]⟩
def q1rl (C:q1pg) (v:q1rf):Dt q1rj:=(Dt.ret (v.1,v.2.1,v.2.2.1,v.2.2.2.1,v.2.2.2.2))
theorem q1rm C v:q3zq (regO (qcz f52) 19) false (an [4,17,105]) q1rg q1rl q1rk C v:=rgI (by kernel_rfl)
abbrev q1rn:Type:=Int×Int×Int×Int
def q1ro (v:q1rn):St:=⟨[(4,.ptr 0 0),(17,.ptr 1 0)],[.cells [.int .i64 v.1,.int .i64 v.2.1],.cells [.int .i64 v.2.2.1,.int .i64 v.2.2.2]]⟩
def q1rp (C:q1pg) (v:q1rj):Dt q1rn:=(Dt.ret (v.2.1,v.2.2.1,(IntKind.wrap .i64 (0 - v.2.2.2.1)),v.2.2.2.2))
theorem q1rq C v:q3zq (regO (qcz f52) 20) false (an [4,17]) q1rk q1rp q1ro C v:=rgI (by kernel_rfl)
def q1rr (C:q1pg) (v:q1rn):Dt q1px:=(Dt.ret ((0:Int),v.2.2.1,v.2.2.2))
theorem q1rs C v:q3zq (regO (qcz f52) 21) false (an [4,5]) q1ro q1rr q1py C v:=rgI (by kernel_rfl)
def q1rt  (d:Nat)  (z:Int×Int×Int×Int):Option (q1pd) :=
 (q1rr (q1ph d) z).eval fun y21 =>
 some (y21.2.1,y21.2.2,y21.1)
def q1ru (d:Nat) (self2:(Bool×Int×Int×Int×Int×Int×Int×Int)→Option q1pd) (x2:Bool×Int×Int×Int×Int×Int×Int×Int):Option q1pd :=
 (q1qx (q1ph d) x2).eval fun y12 =>
 bif y12.2.2.2.2.1 then ((q1qz (q1ph d) y12).eval fun y13 =>
 self2 y13) else ((q1r3 (q1ph d) y12).eval fun y14 =>
 (q1r7 (q1ph d) y14).eval fun y15 =>
 (q1rb (q1ph d) y15).eval fun y16 =>
 bif y16.2.2.2.2.1 then ((q1rd (q1ph d) y16).eval fun y17 =>
 some (y17.2.1,y17.2.2,y17.1)) else ((q1rh (q1ph d) y16).eval fun y18 =>
 (q1rl (q1ph d) y18).eval fun y19 =>
 bif y19.1 then ((q1rp (q1ph d) y19).eval fun y20 =>
 q1rt d  y20) else (q1rt d  y19.2)))
def q1rv  (d:Nat)  (z:Bool×Int×Int×Int×Int×Int×Int):Option (q1pd) :=
 (q1ql (q1ph d) z).eval fun y9 =>
 (q1qp (q1ph d) y9).eval fun y10 =>
 (q1qt (q1ph d) y10).eval fun y11 =>
 iter (q1ru d ) d y11
def q1rw (d:Nat) (x:q1pc):Option q1pd :=
 (q1pn (q1ph d) (x.1.1,x.1.2.1,x.1.2.2.1,x.2.1.1,x.2.1.2.1)).eval fun y0 =>
 (q1pr (q1ph d) y0).eval fun y1 =>
 (q1pv (q1ph d) y1).eval fun y2 =>
 bif y2.2.1 then ((q1pz (q1ph d) y2).eval fun y3 =>
 some (y3.2.1,y3.2.2,y3.1)) else ((q1q3 (q1ph d) y2).eval fun y4 =>
 (q1q7 (q1ph d) y4).eval fun y5 =>
 (q1qb (q1ph d) y5).eval fun y6 =>
 bif y6.2.1 then ((q1qf (q1ph d) y6).eval fun y7 =>
 (q1qh (q1ph d) y7).eval fun y8 =>
 q1rv d  y8) else (q1rv d  (y6.1,y6.2.2.1,y6.2.2.2.1,y6.2.2.2.2.1,y6.2.2.2.2.2.1,y6.2.2.2.2.2.2.1,y6.2.2.2.2.2.2.2)))
theorem q1rx (d:Nat):COK prog (q1pf (q1rw d)):=by
 have hm:prog.follows .mixedOrders=true:=qju
 have hT:=tys
 have hC0:OrcOK prog (orc (q1pi (q1ph d))):=qct (by
  intro S hS
  simp only [q1pi,List.mem_cons,List.not_mem_nil,or_false] at hS
  rcases hS with rfl | rfl | rfl | rfl | rfl
  · exact qo6 d
  · exact qn6 d
  · exact q1j1 d
  · exact q1is d
  · exact q1i6 d)
 have hC:OrcOK prog (orcI 106 q1d4 (orc (q1pi (q1ph d)))):=(q1d5 q1d9 hC0)
 refine q8f (c:=qcz f52) (fn:=f52) hT (by kernel_rfl) (by kernel_rfl) (by decide) fun x r h w0 φ0 Q hend=>?_
 replace h:q1rw d x=some r:=h
 unfold q1rw at h
 show Run prog w0 φ0 111 (qcz f52) ⟨[(0,.agg [.int .i64 x.1.1,.int .i64 x.1.2.1,.int .i64 x.1.2.2.1]),(1,.agg [.int .i64 x.2.1.1,.int .i64 x.2.1.2.1])],[]⟩ Q
 refine q3yy hm hT hC (q1po (q1ph d) (x.1.1,x.1.2.1,x.1.2.2.1,x.2.1.1,x.2.1.2.1)) h fun y0 h=>?_
 refine q7z ?_
 refine q3yy hm hT hC (q1ps (q1ph d) y0) h fun y1 h=>?_
 refine q3yy hm hT hC (q1pw (q1ph d) y1) h fun y2 h=>?_
 refine q83 (v:=y2.2.1) (by kernel_rfl) h ?_ ?_
 ·
  intro h
  refine q3yy hm hT hC (q1q0 (q1ph d) y2) h fun y3 h=>?_
  refine q7y (q7n ?_)
  cases h
  exact (hend _ (by kernel_rfl)).2
 ·
  intro h
  refine q7v (q7l ?_)
  refine q3yy hm hT hC (q1q4 (q1ph d) y2) h fun y4 h=>?_
  refine q3yy hm hT hC (q1q8 (q1ph d) y4) h fun y5 h=>?_
  refine q82 (r:=r) (F:=q1rv d ) (S:=(fun z=>⟨[(3,.ptr 0 0),(4,.ptr 1 0),(7,.ptr 2 0),(8,.bool z.1)],[.cells [.int .i64 z.2.1,.int .i64 z.2.2.1],.cells [.int .i64 z.2.2.2.1,.int .i64 z.2.2.2.2.1],.cells [.int .i64 z.2.2.2.2.2.1,.int .u64 z.2.2.2.2.2.2]]⟩:q1mi→St)) ?_ ?_
  ·
   intro z h
   unfold q1rv at h
   refine q3yy hm hT hC (q1qm (q1ph d) z) h fun y9 h=>?_
   refine q3yy hm hT hC (q1qq (q1ph d) y9) h fun y10 h=>?_
   refine q3yy hm hT hC (q1qu (q1ph d) y10) h fun y11 h=>?_
   refine q7z (q80 ?_)
   refine q85 (G:=iter (q1ru d )) (S:=(fun x2=>⟨[(4,.ptr 0 0),(7,.ptr 1 0),(8,.bool x2.1),(11,.int .u64 x2.2.1),(12,.int .u64 x2.2.2.1),(13,.int .u64 x2.2.2.2.1)],[.cells [.int .i64 x2.2.2.2.2.1,.int .i64 x2.2.2.2.2.2.1],.cells [.int .i64 x2.2.2.2.2.2.2.1,.int .u64 x2.2.2.2.2.2.2.2]]⟩:q1qr→St)) (fun _=>rfl) ?_ d _ h
   intro n2 x2 h K2 hn2
   replace h:q1ru d  (iter (q1ru d ) n2) x2=some r:=h
   generalize iter (q1ru d ) n2=self2 at h hn2
   unfold q1ru at h
   refine q7z ?_
   refine q3yy hm hT hC (q1qy (q1ph d) x2) h fun y12 h=>?_
   refine q83 (v:=y12.2.2.2.2.1) (by kernel_rfl) h ?_ ?_
   ·
    intro h
    refine q7v (q7l (q80 ?_))
    refine q84 hm hT hC (q1r0 (q1ph d) y12) h ?_
    intro y13 h
    refine q7o ?_
    exact hn2 _ h
   ·
    intro h
    refine q7x (q7m (q7m (q7q (q7l ?_))))
    refine q3yy hm hT hC (q1r4 (q1ph d) y12) h fun y14 h=>?_
    refine q3yy hm hT hC (q1r8 (q1ph d) y14) h fun y15 h=>?_
    refine q7z ?_
    refine q3yy hm hT hC (q1rc (q1ph d) y15) h fun y16 h=>?_
    refine q83 (v:=y16.2.2.2.2.1) (by kernel_rfl) h ?_ ?_
    ·
     intro h
     refine q3yy hm hT hC (q1re (q1ph d) y16) h fun y17 h=>?_
     refine q7y (q7n ?_)
     cases h
     exact (hend _ (by kernel_rfl)).2
    ·
     intro h
     refine q7v (q7l ?_)
     refine q3yy hm hT hC (q1ri (q1ph d) y16) h fun y18 h=>?_
     refine q82 (r:=r) (F:=q1rt d ) (S:=(fun z=>⟨[(4,.ptr 0 0),(17,.ptr 1 0)],[.cells [.int .i64 z.1,.int .i64 z.2.1],.cells [.int .i64 z.2.2.1,.int .i64 z.2.2.2]]⟩:q1mq→St)) ?_ ?_
     ·
      intro z h
      unfold q1rt at h
      refine q3yy hm hT hC (q1rs (q1ph d) z) h fun y21 h=>?_
      refine q7y ?_
      cases h
      exact (hend _ (by kernel_rfl)).2
     intro hj3
     refine q3yy hm hT hC (q1rm (q1ph d) y18) h fun y19 h=>?_
     refine q83 (v:=y19.1) (by kernel_rfl) h ?_ ?_
     ·
      intro h
      refine q84 hm hT hC (q1rq (q1ph d) y19) h ?_
      intro y20 h
      exact hj3 _ h
     ·
      intro h
      refine q7v ?_
      refine qcy (s:=⟨[(4,.ptr 0 0),(17,.ptr 1 0)],[.cells [.int .i64 y19.2.1,.int .i64 y19.2.2.1],.cells [.int .i64 y19.2.2.2.1,.int .i64 y19.2.2.2.2]]⟩) [105] (by kernel_rfl) ?_
      exact hj3 _ h
  intro hj1
  refine q3yy hm hT hC (q1qc (q1ph d) y5) h fun y6 h=>?_
  refine q83 (v:=y6.2.1) (by kernel_rfl) h ?_ ?_
  ·
   intro h
   refine q3yy hm hT hC (q1qg (q1ph d) y6) h fun y7 h=>?_
   refine q84 hm hT hC (q1qi (q1ph d) y7) h ?_
   intro y8 h
   exact hj1 _ h
  ·
   intro h
   refine q7v ?_
   refine qcy (s:=⟨[(3,.ptr 0 0),(4,.ptr 1 0),(7,.ptr 2 0),(8,.bool y6.1)],[.cells [.int .i64 y6.2.2.1,.int .i64 y6.2.2.2.1],.cells [.int .i64 y6.2.2.2.2.1,.int .i64 y6.2.2.2.2.2.1],.cells [.int .i64 y6.2.2.2.2.2.2.1,.int .u64 y6.2.2.2.2.2.2.2]]⟩) [42] (by kernel_rfl) ?_
   exact hj1 _ h
abbrev q1ry:List Pk:=[.row Rii true,.row Rii true]
abbrev q1rz:Type:=Dii×Dii×Unit
abbrev q1s0:Type:=Int
def q1s1 (r:q1s0):LV×List Ob:=(.int .i64 r,[])
def q1s2 (F:q1rz→Option q1s0):Go.Tx.Spec:=⟨48,q1ry,q1s0,F,q1s1⟩
abbrev q1s3:Type:=(qn8→Option qn9)×Unit
def q1s4 (d:Nat):q1s3:=(qnd d,())
def q1s5 (C:q1s3):List Go.Tx.Spec:=[qnb C.1]
abbrev q1s6:Type:=Int×Int×Int×Int
def q1s7 (v:q1s6):St:=⟨[(0,.agg [.int .i64 v.1,.int .i64 v.2.1]),(1,.agg [.int .i64 v.2.2.1,.int .i64 v.2.2.2])],[]⟩
abbrev q1s8:Type:=Int×Int×Int×Int
def q1s9 (v:q1s8):St:=⟨[(2,.ptr 0 0),(3,.ptr 1 0)],[.cells [.int .i64 v.1,.int .i64 v.2.1],.cells [.int .i64 v.2.2.1,.int .i64 v.2.2.2]]⟩
def q1sa (C:q1s3) (v:q1s6):Dt q1s8:=(Dt.ret (v.1,v.2.1,v.2.2.1,v.2.2.2))
abbrev q3zr {V Y:Type}:=@rg q1s3 V Y tysT (fun C=>(orc (q1s5 C))) 12
theorem q1sb C v:q3zr (regO (qcz f48) 0) false (an [2,3]) q1s7 q1sa q1s9 C v:=rgI (by kernel_rfl)
abbrev q1sc:Type:=Bool×Int×Int×Int×Int
def q1sd (v:q1sc):St:=⟨[(2,.ptr 0 0),(3,.ptr 1 0),(7,.bool v.1)],[.cells [.int .i64 v.2.1,.int .i64 v.2.2.1],.cells [.int .i64 v.2.2.2.1,.int .i64 v.2.2.2.2]]⟩
def q1se (C:q1s3) (v:q1s8):Dt q1sc:=(Dt.bnd (C.1 ((v.1,v.2.1,()),())) fun r1=>(Dt.ret ((r1 != (0:Int)),v.1,v.2.1,v.2.2.1,v.2.2.2)))
theorem q1sf C v:q3zr (regO (qcz f48) 1) false (an [2,3,7]) q1s9 q1se q1sd C v:=rgI (by kernel_rfl)
abbrev q1sg:Type:=Int
def q1sh (v:q1sg):St:=⟨[(4,.int .i64 v)],[]⟩
def q1si (C:q1s3) (v:q1sc):Dt q1sg:=(Dt.bnd (C.1 ((v.2.1,v.2.2.1,()),())) fun r1=>(Dt.ret r1))
theorem q1sj C v:q3zr (regO (qcz f48) 2) false [(4,.any)] q1sd q1si q1sh C v:=rgI (by kernel_rfl)
def q1sk (C:q1s3) (v:q1sc):Dt q1sg:=(Dt.bnd (C.1 ((v.2.2.2.1,v.2.2.2.2,()),())) fun r1=>(Dt.ret r1))
theorem q1sl C v:q3zr (regO (qcz f48) 3) false [(4,.any)] q1sd q1sk q1sh C v:=rgI (by kernel_rfl)
def q1sm (d:Nat) (x:q1rz):Option q1s0 :=
 (q1sa (q1s4 d) (x.1.1,x.1.2.1,x.2.1.1,x.2.1.2.1)).eval fun y0 =>
 (q1se (q1s4 d) y0).eval fun y1 =>
 bif y1.1 then ((q1si (q1s4 d) y1).eval fun y2 =>
 some y2) else ((q1sk (q1s4 d) y1).eval fun y3 =>
 some y3)
theorem q1sn (d:Nat):COK prog (q1s2 (q1sm d)):=by
 have hm:prog.follows .mixedOrders=true:=qju
 have hT:=tys
 have hC0:OrcOK prog (orc (q1s5 (q1s4 d))):=qct (by
  intro S hS
  simp only [q1s5,List.mem_cons,List.not_mem_nil,or_false] at hS
  subst hS;exact qnf d)
 have hC:OrcOK prog (orc (q1s5 (q1s4 d))):=hC0
 refine q8f (c:=qcz f48) (fn:=f48) hT (by kernel_rfl) (by kernel_rfl) (by decide) fun x r h w0 φ0 Q hend=>?_
 replace h:q1sm d x=some r:=h
 unfold q1sm at h
 show Run prog w0 φ0 12 (qcz f48) ⟨[(0,.agg [.int .i64 x.1.1,.int .i64 x.1.2.1]),(1,.agg [.int .i64 x.2.1.1,.int .i64 x.2.1.2.1])],[]⟩ Q
 refine q3yy hm hT hC (q1sb (q1s4 d) (x.1.1,x.1.2.1,x.2.1.1,x.2.1.2.1)) h fun y0 h=>?_
 refine q7z ?_
 refine q3yy hm hT hC (q1sf (q1s4 d) y0) h fun y1 h=>?_
 refine q83 (v:=y1.1) (by kernel_rfl) h ?_ ?_
 ·
  intro h
  refine q3yy hm hT hC (q1sj (q1s4 d) y1) h fun y2 h=>?_
  refine q7y (q7n ?_)
  cases h
  exact (hend _ (by kernel_rfl)).2
 ·
  intro h
  refine q7v (q7l ?_)
  refine q3yy hm hT hC (q1sl (q1s4 d) y1) h fun y3 h=>?_
  refine q7y ?_
  cases h
  exact (hend _ (by kernel_rfl)).2
abbrev q1so:List Pk:=[.row Ru false,.row Ru false]
abbrev q1sp:Type:=Du×Du×Unit
abbrev q1sq:Type:=Int
def q1sr (r:q1sq):LV×List Ob:=(.int .u64 r,[])
def q1ss (F:q1sp→Option q1sq):Go.Tx.Spec:=⟨57,q1so,q1sq,F,q1sr⟩
abbrev q1st:Type:=Unit
def q1su (_d:Nat):q1st:=()
def q1sv (C:q1st):List Go.Tx.Spec:=[]
abbrev q1sw:Type:=Int×Int
def q1sx (v:q1sw):St:=⟨[(0,.int .u64 v.1),(1,.int .u64 v.2)],[]⟩
def q1sy (C:q1st) (v:q1sw):Dt q1sw:=(Dt.ret (v.1,v.2))
abbrev q3zs {V Y:Type}:=@rg q1st V Y tysT (fun C=>(orc (q1sv C))) 12
theorem q1sz C v:q3zs (regO (qcz f57) 0) false (an [0,1]) q1sx q1sy q1sx C v:=rgI (by kernel_rfl)
abbrev q1t0:Type:=Int×Int×Bool
def q1t1 (v:q1t0):St:=⟨[(0,.int .u64 v.1),(1,.int .u64 v.2.1),(6,.bool v.2.2)],[]⟩
def q1t2 (C:q1st) (v:q1sw):Dt q1t0:=(Dt.ret (v.1,v.2,(v.2 != (0:Int))))
theorem q1t3 C v:q3zs (regO (qcz f57) 1) false (an [0,1,6]) q1sx q1t2 q1t1 C v:=rgI (by kernel_rfl)
def q1t4 (C:q1st) (v:q1t0):Dt q1sw:=(Dt.ite (v.2.1 == (0:Int)) Dt.fail (Dt.ret (v.2.1,(Int.tmod v.1 v.2.1))))
theorem q1t5 C v:q3zs (regO (qcz f57) 2) true (an [0,1]) q1t1 q1t4 q1sx C v:=rgI (by kernel_rfl)
abbrev q1t6:Type:=Int
def q1t7 (v:q1t6):St:=⟨[(4,.int .u64 v)],[]⟩
def q1t8 (C:q1st) (v:q1t0):Dt q1t6:=(Dt.ret v.1)
theorem q1t9 C v:q3zs (regO (qcz f57) 3) false [(4,.any)] q1t1 q1t8 q1t7 C v:=rgI (by kernel_rfl)
def q1ta (d:Nat) (self1:(Int×Int)→Option q1sq) (x1:Int×Int):Option q1sq :=
 (q1t2 (q1su d) x1).eval fun y1 =>
 bif y1.2.2 then ((q1t4 (q1su d) y1).eval fun y2 =>
 self1 y2) else ((q1t8 (q1su d) y1).eval fun y3 =>
 some y3)
def q1tb (d:Nat) (x:q1sp):Option q1sq :=
 (q1sy (q1su d) (x.1.1,x.2.1.1)).eval fun y0 =>
 iter (q1ta d ) d y0
theorem q1tc (d:Nat):COK prog (q1ss (q1tb d)):=by
 have hm:prog.follows .mixedOrders=true:=qju
 have hT:=tys
 have hC0:OrcOK prog (orc (q1sv (q1su d))):=qct (by
  intro S hS
  simp only [q1sv,List.mem_cons,List.not_mem_nil,or_false] at hS
  all_goals first | cases hS | exact hS.elim)
 have hC:OrcOK prog (orc (q1sv (q1su d))):=hC0
 refine q8f (c:=qcz f57) (fn:=f57) hT (by kernel_rfl) (by kernel_rfl) (by decide) fun x r h w0 φ0 Q hend=>?_
 replace h:q1tb d x=some r:=h
 unfold q1tb at h
 show Run prog w0 φ0 12 (qcz f57) ⟨[(0,.int .u64 x.1.1),(1,.int .u64 x.2.1.1)],[]⟩ Q
 refine q3yy hm hT hC (q1sz (q1su d) (x.1.1,x.2.1.1)) h fun y0 h=>?_
 refine q7z (q80 ?_)
 refine q85 (G:=iter (q1ta d )) (S:=(fun x1=>⟨[(0,.int .u64 x1.1),(1,.int .u64 x1.2)],[]⟩:Int×Int→St)) (fun _=>rfl) ?_ d _ h
 intro n1 x1 h K1 hn1
 replace h:q1ta d  (iter (q1ta d ) n1) x1=some r:=h
 generalize iter (q1ta d ) n1=self1 at h hn1
 unfold q1ta at h
 refine q7z ?_
 refine q3yy hm hT hC (q1t3 (q1su d) x1) h fun y1 h=>?_
 refine q83 (v:=y1.2.2) (by kernel_rfl) h ?_ ?_
 ·
  intro h
  refine q7v (q7l (q80 ?_))
  refine q84 hm hT hC (q1t5 (q1su d) y1) h ?_
  intro y2 h
  refine q7o ?_
  exact hn1 _ h
 ·
  intro h
  refine q7x (q7m (q7m (q7q (q7l ?_))))
  refine q3yy hm hT hC (q1t9 (q1su d) y1) h fun y3 h=>?_
  refine q7y ?_
  cases h
  exact (hend _ (by kernel_rfl)).2
abbrev q1td:List Pk:=[.row Rbuu true,.row Rbuu true]
abbrev q1te:Type:=Dbuu×Dbuu×Unit
abbrev q1tf:Type:=Int
def q1tg (r:q1tf):LV×List Ob:=(.int .i64 r,[])
def q1th (F:q1te→Option q1tf):Go.Tx.Spec:=⟨91,q1td,q1tf,F,q1tg⟩
abbrev q1ti:Type:=Unit
def q1tj (_d:Nat):q1ti:=()
def q1tk (C:q1ti):List Go.Tx.Spec:=[]
abbrev q1tl:Type:=Bool×Int×Int×Bool×Int×Int
def q1tm (v:q1tl):St:=⟨[(0,.agg [.bool v.1,.int .u64 v.2.1,.int .u64 v.2.2.1]),(1,.agg [.bool v.2.2.2.1,.int .u64 v.2.2.2.2.1,.int .u64 v.2.2.2.2.2])],[]⟩
abbrev q1tn:Type:=Bool×Int×Int×Bool×Int×Int
def q1to (v:q1tn):St:=⟨[(2,.ptr 0 0),(3,.ptr 1 0)],[.cells [.bool v.1,.int .u64 v.2.1,.int .u64 v.2.2.1],.cells [.bool v.2.2.2.1,.int .u64 v.2.2.2.2.1,.int .u64 v.2.2.2.2.2]]⟩
def q1tp (C:q1ti) (v:q1tl):Dt q1tn:=(Dt.ret (v.1,v.2.1,v.2.2.1,v.2.2.2.1,v.2.2.2.2.1,v.2.2.2.2.2))
abbrev q3zt {V Y:Type}:=@rg q1ti V Y tysT (fun C=>(orc (q1tk C))) 25
theorem q1tq C v:q3zt (regO (qcz f91) 0) false (an [2,3]) q1tm q1tp q1to C v:=rgI (by kernel_rfl)
abbrev q1tr:Type:=Bool×Bool×Int×Int×Bool×Int×Int
def q1ts (v:q1tr):St:=⟨[(2,.ptr 0 0),(3,.ptr 1 0),(9,.bool v.1)],[.cells [.bool v.2.1,.int .u64 v.2.2.1,.int .u64 v.2.2.2.1],.cells [.bool v.2.2.2.2.1,.int .u64 v.2.2.2.2.2.1,.int .u64 v.2.2.2.2.2.2]]⟩
def q1tt (C:q1ti) (v:q1tn):Dt q1tr:=(Dt.ret ((v.2.1 != v.2.2.2.2.1),v.1,v.2.1,v.2.2.1,v.2.2.2.1,v.2.2.2.2.1,v.2.2.2.2.2))
theorem q1tu C v:q3zt (regO (qcz f91) 1) false (an [2,3,9]) q1to q1tt q1ts C v:=rgI (by kernel_rfl)
abbrev q1tv:Type:=Bool
def q1tw (v:q1tv):St:=⟨[(14,.bool v)],[]⟩
def q1tx (C:q1ti) (v:q1tr):Dt q1tv:=(Dt.ret (decide (v.2.2.1 < v.2.2.2.2.2.1)))
theorem q1ty C v:q3zt (regO (qcz f91) 2) false [(14,.any)] q1ts q1tx q1tw C v:=rgI (by kernel_rfl)
abbrev q1tz:Type:=Int
def q1u0 (v:q1tz):St:=⟨[(4,.int .i64 v)],[]⟩
def q1u1 (C:q1ti) (v:q1tv):Dt q1tz:=(Dt.ret (-1:Int))
theorem q1u2 C v:q3zt (regO (qcz f91) 3) false [(4,.any)] q1tw q1u1 q1u0 C v:=rgI (by kernel_rfl)
def q1u3 (C:q1ti) (v:q1tv):Dt q1tz:=(Dt.ret (1:Int))
theorem q1u4 C v:q3zt (regO (qcz f91) 4) false [(4,.any)] q1tw q1u3 q1u0 C v:=rgI (by kernel_rfl)
abbrev q1u5:Type:=Bool×Bool×Int×Int×Bool×Int×Int
def q1u6 (v:q1u5):St:=⟨[(2,.ptr 0 0),(3,.ptr 1 0),(19,.bool v.1)],[.cells [.bool v.2.1,.int .u64 v.2.2.1,.int .u64 v.2.2.2.1],.cells [.bool v.2.2.2.2.1,.int .u64 v.2.2.2.2.2.1,.int .u64 v.2.2.2.2.2.2]]⟩
def q1u7 (C:q1ti) (v:q1tr):Dt q1u5:=(Dt.ret ((v.2.2.2.1 != v.2.2.2.2.2.2),v.2.1,v.2.2.1,v.2.2.2.1,v.2.2.2.2.1,v.2.2.2.2.2.1,v.2.2.2.2.2.2))
theorem q1u8 C v:q3zt (regO (qcz f91) 5) false (an [2,3,19]) q1ts q1u7 q1u6 C v:=rgI (by kernel_rfl)
abbrev q1u9:Type:=Bool
def q1ua (v:q1u9):St:=⟨[(24,.bool v)],[]⟩
def q1ub (C:q1ti) (v:q1u5):Dt q1u9:=(Dt.ret (decide (v.2.2.2.1 < v.2.2.2.2.2.2)))
theorem q1uc C v:q3zt (regO (qcz f91) 6) false [(24,.any)] q1u6 q1ub q1ua C v:=rgI (by kernel_rfl)
def q1ud (C:q1ti) (v:q1u9):Dt q1tz:=(Dt.ret (-1:Int))
theorem q1ue C v:q3zt (regO (qcz f91) 7) false [(4,.any)] q1ua q1ud q1u0 C v:=rgI (by kernel_rfl)
def q1uf (C:q1ti) (v:q1u9):Dt q1tz:=(Dt.ret (1:Int))
theorem q1ug C v:q3zt (regO (qcz f91) 8) false [(4,.any)] q1ua q1uf q1u0 C v:=rgI (by kernel_rfl)
def q1uh (C:q1ti) (v:q1u5):Dt q1tz:=(Dt.ret (0:Int))
theorem q1ui C v:q3zt (regO (qcz f91) 9) false [(4,.any)] q1u6 q1uh q1u0 C v:=rgI (by kernel_rfl)
def q1uj (d:Nat) (x:q1te):Option q1tf :=
 (q1tp (q1tj d) (x.1.1,x.1.2.1,x.1.2.2.1,x.2.1.1,x.2.1.2.1,x.2.1.2.2.1)).eval fun y0 =>
 (q1tt (q1tj d) y0).eval fun y1 =>
 bif y1.1 then ((q1tx (q1tj d) y1).eval fun y2 =>
 bif y2 then ((q1u1 (q1tj d) y2).eval fun y3 =>
 some y3) else ((q1u3 (q1tj d) y2).eval fun y4 =>
 some y4)) else ((q1u7 (q1tj d) y1).eval fun y5 =>
 bif y5.1 then ((q1ub (q1tj d) y5).eval fun y6 =>
 bif y6 then ((q1ud (q1tj d) y6).eval fun y7 =>
 some y7) else ((q1uf (q1tj d) y6).eval fun y8 =>
 some y8)) else ((q1uh (q1tj d) y5).eval fun y9 =>
 some y9))
theorem q1uk (d:Nat):COK prog (q1th (q1uj d)):=by
 have hm:prog.follows .mixedOrders=true:=qju
 have hT:=tys
 have hC0:OrcOK prog (orc (q1tk (q1tj d))):=qct (by
  intro S hS
  simp only [q1tk,List.mem_cons,List.not_mem_nil,or_false] at hS
  all_goals first | cases hS | exact hS.elim)
 have hC:OrcOK prog (orc (q1tk (q1tj d))):=hC0
 refine q8f (c:=qcz f91) (fn:=f91) hT (by kernel_rfl) (by kernel_rfl) (by decide) fun x r h w0 φ0 Q hend=>?_
 replace h:q1uj d x=some r:=h
 unfold q1uj at h
 show Run prog w0 φ0 25 (qcz f91) ⟨[(0,.agg [.bool x.1.1,.int .u64 x.1.2.1,.int .u64 x.1.2.2.1]),(1,.agg [.bool x.2.1.1,.int .u64 x.2.1.2.1,.int .u64 x.2.1.2.2.1])],[]⟩ Q
 refine q3yy hm hT hC (q1tq (q1tj d) (x.1.1,x.1.2.1,x.1.2.2.1,x.2.1.1,x.2.1.2.1,x.2.1.2.2.1)) h fun y0 h=>?_
 refine q7z ?_
 refine q3yy hm hT hC (q1tu (q1tj d) y0) h fun y1 h=>?_
 refine q83 (v:=y1.1) (by kernel_rfl) h ?_ ?_
 ·
  intro h
  refine q7z ?_
  refine q3yy hm hT hC (q1ty (q1tj d) y1) h fun y2 h=>?_
  refine q83 (v:=y2) (by kernel_rfl) h ?_ ?_
  ·
   intro h
   refine q3yy hm hT hC (q1u2 (q1tj d) y2) h fun y3 h=>?_
   refine q7y (q7n (q7n ?_))
   cases h
   exact (hend _ (by kernel_rfl)).2
  ·
   intro h
   refine q7v (q7l ?_)
   refine q3yy hm hT hC (q1u4 (q1tj d) y2) h fun y4 h=>?_
   refine q7y (q7n ?_)
   cases h
   exact (hend _ (by kernel_rfl)).2
 ·
  intro h
  refine q7v (q7l (q7z ?_))
  refine q3yy hm hT hC (q1u8 (q1tj d) y1) h fun y5 h=>?_
  refine q83 (v:=y5.1) (by kernel_rfl) h ?_ ?_
  ·
   intro h
   refine q7z ?_
   refine q3yy hm hT hC (q1uc (q1tj d) y5) h fun y6 h=>?_
   refine q83 (v:=y6) (by kernel_rfl) h ?_ ?_
   ·
    intro h
    refine q3yy hm hT hC (q1ue (q1tj d) y6) h fun y7 h=>?_
    refine q7y (q7n (q7n ?_))
    cases h
    exact (hend _ (by kernel_rfl)).2
   ·
    intro h
    refine q7v (q7l ?_)
    refine q3yy hm hT hC (q1ug (q1tj d) y6) h fun y8 h=>?_
    refine q7y (q7n ?_)
    cases h
    exact (hend _ (by kernel_rfl)).2
  ·
   intro h
   refine q7v (q7l ?_)
   refine q3yy hm hT hC (q1ui (q1tj d) y5) h fun y9 h=>?_
   refine q7y ?_
   cases h
   exact (hend _ (by kernel_rfl)).2
abbrev q1ul:List Pk:=[.row Rbuu true,.row Rbuu true]
abbrev q1um:Type:=Dbuu×Dbuu×Unit
abbrev q1un:Type:=Bool×Int×Int
def q1uo (r:q1un):LV×List Ob:=(.agg [.bool r.1,.int .u64 r.2.1,.int .u64 r.2.2],[])
def q1up (F:q1um→Option q1un):Go.Tx.Spec:=⟨135,q1ul,q1un,F,q1uo⟩
abbrev q1uq:Type:=Unit
def q1ur (_d:Nat):q1uq:=()
def q1us (C:q1uq):List Go.Tx.Spec:=[]
abbrev q1ut:Type:=Bool×Int×Int×Bool×Int×Int
def q1uu (v:q1ut):St:=⟨[(0,.agg [.bool v.1,.int .u64 v.2.1,.int .u64 v.2.2.1]),(1,.agg [.bool v.2.2.2.1,.int .u64 v.2.2.2.2.1,.int .u64 v.2.2.2.2.2])],[]⟩
abbrev q1uv:Type:=Bool×Int×Int×Bool×Int×Int×Bool×Int×Int
def q1uw (v:q1uv):St:=⟨[(2,.ptr 0 0),(3,.ptr 1 0),(4,.ptr 2 0)],[.cells [.bool v.1,.int .u64 v.2.1,.int .u64 v.2.2.1],.cells [.bool v.2.2.2.1,.int .u64 v.2.2.2.2.1,.int .u64 v.2.2.2.2.2.1],.cells [.bool v.2.2.2.2.2.2.1,.int .u64 v.2.2.2.2.2.2.2.1,.int .u64 v.2.2.2.2.2.2.2.2]]⟩
def q1ux (C:q1uq) (v:q1ut):Dt q1uv:=(Dt.ret (v.1,v.2.1,v.2.2.1,v.2.2.2.1,v.2.2.2.2.1,v.2.2.2.2.2,false,(0:Int),(0:Int)))
abbrev q3zu {V Y:Type}:=@rg q1uq V Y tysT (fun C=>(orc (q1us C))) 27
theorem q1uy C v:q3zu (regO (qcz f135) 0) false (an [2,3,4]) q1uu q1ux q1uw C v:=rgI (by kernel_rfl)
abbrev q1uz:Type:=Bool×Int×Int×Bool×Int×Int×Bool×Int×Int×Bool×Int×Int
def q1v0 (v:q1uz):St:=⟨[(2,.ptr 0 0),(3,.ptr 1 0),(4,.ptr 2 0),(5,.ptr 3 0)],[.cells [.bool v.1,.int .u64 v.2.1,.int .u64 v.2.2.1],.cells [.bool v.2.2.2.1,.int .u64 v.2.2.2.2.1,.int .u64 v.2.2.2.2.2.1],.cells [.bool v.2.2.2.2.2.2.1,.int .u64 v.2.2.2.2.2.2.2.1,.int .u64 v.2.2.2.2.2.2.2.2.1],.cells [.bool v.2.2.2.2.2.2.2.2.2.1,.int .u64 v.2.2.2.2.2.2.2.2.2.2.1,.int .u64 v.2.2.2.2.2.2.2.2.2.2.2]]⟩
def q1v1 (C:q1uq) (v:q1uv):Dt q1uz:=(Dt.ret (v.1,v.2.1,v.2.2.1,v.2.2.2.1,v.2.2.2.2.1,v.2.2.2.2.2.1,v.2.2.2.2.2.2.1,v.2.2.2.2.2.2.2.1,v.2.2.2.2.2.2.2.2,false,(IntKind.wrap .u64 (v.2.1 - v.2.2.2.2.1)),(IntKind.wrap .u64 (v.2.2.1 - v.2.2.2.2.2.1))))
theorem q1v2 C v:q3zu (regO (qcz f135) 1) false (an [2,3,4,5]) q1uw q1v1 q1v0 C v:=rgI (by kernel_rfl)
abbrev q1v3:Type:=Bool×Bool×Int×Int×Bool×Int×Int
def q1v4 (v:q1v3):St:=⟨[(4,.ptr 0 0),(5,.ptr 1 0),(21,.bool v.1)],[.cells [.bool v.2.1,.int .u64 v.2.2.1,.int .u64 v.2.2.2.1],.cells [.bool v.2.2.2.2.1,.int .u64 v.2.2.2.2.2.1,.int .u64 v.2.2.2.2.2.2]]⟩
def q1v5 (C:q1uq) (v:q1uz):Dt q1v3:=(Dt.ret ((decide (v.2.2.1 < v.2.2.2.2.2.1)),v.2.2.2.2.2.2.1,v.2.2.2.2.2.2.2.1,v.2.2.2.2.2.2.2.2.1,v.2.2.2.2.2.2.2.2.2.1,v.2.2.2.2.2.2.2.2.2.2.1,v.2.2.2.2.2.2.2.2.2.2.2))
theorem q1v6 C v:q3zu (regO (qcz f135) 2) false (an [4,5,21]) q1v0 q1v5 q1v4 C v:=rgI (by kernel_rfl)
abbrev q1v7:Type:=Bool×Int×Int×Bool×Int×Int
def q1v8 (v:q1v7):St:=⟨[(4,.ptr 0 0),(5,.ptr 1 0)],[.cells [.bool v.1,.int .u64 v.2.1,.int .u64 v.2.2.1],.cells [.bool v.2.2.2.1,.int .u64 v.2.2.2.2.1,.int .u64 v.2.2.2.2.2]]⟩
def q1v9 (C:q1uq) (v:q1v3):Dt q1v7:=(Dt.ret (v.2.1,v.2.2.1,v.2.2.2.1,v.2.2.2.2.1,(IntKind.wrap .u64 (v.2.2.2.2.2.1 - (1:Int))),v.2.2.2.2.2.2))
theorem q1va C v:q3zu (regO (qcz f135) 3) false (an [4,5]) q1v4 q1v9 q1v8 C v:=rgI (by kernel_rfl)
abbrev q1vb:Type:=Bool×Int×Int
def q1vc (v:q1vb):St:=⟨[(4,.ptr 0 0)],[.cells [.bool v.1,.int .u64 v.2.1,.int .u64 v.2.2]]⟩
def q1vd (C:q1uq) (v:q1v7):Dt q1vb:=(Dt.ret (v.2.2.2.1,v.2.2.2.2.1,v.2.2.2.2.2))
theorem q1ve C v:q3zu (regO (qcz f135) 4) false [(4,.any)] q1v8 q1vd q1vc C v:=rgI (by kernel_rfl)
def q1vf  (d:Nat)  (z:Bool×Int×Int×Bool×Int×Int):Option (q1un) :=
 (q1vd (q1ur d) z).eval fun y4 =>
 some y4
def q1vg (d:Nat) (x:q1um):Option q1un :=
 (q1ux (q1ur d) (x.1.1,x.1.2.1,x.1.2.2.1,x.2.1.1,x.2.1.2.1,x.2.1.2.2.1)).eval fun y0 =>
 (q1v1 (q1ur d) y0).eval fun y1 =>
 (q1v5 (q1ur d) y1).eval fun y2 =>
 bif y2.1 then ((q1v9 (q1ur d) y2).eval fun y3 =>
 q1vf d  y3) else (q1vf d  y2.2)
theorem q1vh (d:Nat):COK prog (q1up (q1vg d)):=by
 have hm:prog.follows .mixedOrders=true:=qju
 have hT:=tys
 have hC0:OrcOK prog (orc (q1us (q1ur d))):=qct (by
  intro S hS
  simp only [q1us,List.mem_cons,List.not_mem_nil,or_false] at hS
  all_goals first | cases hS | exact hS.elim)
 have hC:OrcOK prog (orc (q1us (q1ur d))):=hC0
 refine q8f (c:=qcz f135) (fn:=f135) hT (by kernel_rfl) (by kernel_rfl) (by decide) fun x r h w0 φ0 Q hend=>?_
 replace h:q1vg d x=some r:=h
 unfold q1vg at h
 show Run prog w0 φ0 27 (qcz f135) ⟨[(0,.agg [.bool x.1.1,.int .u64 x.1.2.1,.int .u64 x.1.2.2.1]),(1,.agg [.bool x.2.1.1,.int .u64 x.2.1.2.1,.int .u64 x.2.1.2.2.1])],[]⟩ Q
 refine q3yy hm hT hC (q1uy (q1ur d) (x.1.1,x.1.2.1,x.1.2.2.1,x.2.1.1,x.2.1.2.1,x.2.1.2.2.1)) h fun y0 h=>?_
 refine q3yy hm hT hC (q1v2 (q1ur d) y0) h fun y1 h=>?_
 refine q82 (r:=r) (F:=q1vf d ) (S:=(fun z=>⟨[(4,.ptr 0 0),(5,.ptr 1 0)],[.cells [.bool z.1,.int .u64 z.2.1,.int .u64 z.2.2.1],.cells [.bool z.2.2.2.1,.int .u64 z.2.2.2.2.1,.int .u64 z.2.2.2.2.2]]⟩:q1jz→St)) ?_ ?_
 ·
  intro z h
  unfold q1vf at h
  refine q3yy hm hT hC (q1ve (q1ur d) z) h fun y4 h=>?_
  refine q7y ?_
  cases h
  exact (hend _ (by kernel_rfl)).2
 intro hj1
 refine q3yy hm hT hC (q1v6 (q1ur d) y1) h fun y2 h=>?_
 refine q83 (v:=y2.1) (by kernel_rfl) h ?_ ?_
 ·
  intro h
  refine q84 hm hT hC (q1va (q1ur d) y2) h ?_
  intro y3 h
  exact hj1 _ h
 ·
  intro h
  refine q7v ?_
  refine qcy (s:=⟨[(4,.ptr 0 0),(5,.ptr 1 0)],[.cells [.bool y2.2.1,.int .u64 y2.2.2.1,.int .u64 y2.2.2.2.1],.cells [.bool y2.2.2.2.2.1,.int .u64 y2.2.2.2.2.2.1,.int .u64 y2.2.2.2.2.2.2]]⟩) [21] (by kernel_rfl) ?_
  exact hj1 _ h
abbrev q1vi:List Pk:=[.row Rbuu true,.row Rbuu true]
abbrev q1vj:Type:=Dbuu×Dbuu×Unit
abbrev q1vk:Type:=Bool×Int×Int
def q1vl (r:q1vk):LV×List Ob:=(.agg [.bool r.1,.int .u64 r.2.1,.int .u64 r.2.2],[])
def q1vm (F:q1vj→Option q1vk):Go.Tx.Spec:=⟨85,q1vi,q1vk,F,q1vl⟩
abbrev q1vn:Type:=(q1te→Option q1tf)×(q1um→Option q1un)×Unit
def q1vo (d:Nat):q1vn:=(q1uj d,q1vg d,())
def q1vp (C:q1vn):List Go.Tx.Spec:=[q1th C.1,q1up C.2.1]
abbrev q1vq:Type:=Bool×Int×Int×Bool×Int×Int
def q1vr (v:q1vq):St:=⟨[(0,.agg [.bool v.1,.int .u64 v.2.1,.int .u64 v.2.2.1]),(1,.agg [.bool v.2.2.2.1,.int .u64 v.2.2.2.2.1,.int .u64 v.2.2.2.2.2])],[]⟩
abbrev q1vs:Type:=Bool×Int×Int×Bool×Int×Int×Bool×Int×Int
def q1vt (v:q1vs):St:=⟨[(2,.ptr 0 0),(3,.ptr 1 0),(4,.ptr 2 0)],[.cells [.bool v.1,.int .u64 v.2.1,.int .u64 v.2.2.1],.cells [.bool v.2.2.2.1,.int .u64 v.2.2.2.2.1,.int .u64 v.2.2.2.2.2.1],.cells [.bool v.2.2.2.2.2.2.1,.int .u64 v.2.2.2.2.2.2.2.1,.int .u64 v.2.2.2.2.2.2.2.2]]⟩
def q1vu (C:q1vn) (v:q1vq):Dt q1vs:=(Dt.ret (v.1,v.2.1,v.2.2.1,v.2.2.2.1,v.2.2.2.2.1,v.2.2.2.2.2,false,(0:Int),(0:Int)))
abbrev q3zv {V Y:Type}:=@rg q1vn V Y tysT (fun C=>(orc (q1vp C))) 64
theorem q1vv C v:q3zv (regO (qcz f85) 0) false (an [2,3,4]) q1vr q1vu q1vt C v:=rgI (by kernel_rfl)
abbrev q1vw:Type:=Bool×Bool×Int×Int×Bool×Int×Int×Bool×Int×Int
def q1vx (v:q1vw):St:=⟨[(2,.ptr 0 0),(3,.ptr 1 0),(4,.ptr 2 0),(12,.bool v.1)],[.cells [.bool v.2.1,.int .u64 v.2.2.1,.int .u64 v.2.2.2.1],.cells [.bool v.2.2.2.2.1,.int .u64 v.2.2.2.2.2.1,.int .u64 v.2.2.2.2.2.2.1],.cells [.bool v.2.2.2.2.2.2.2.1,.int .u64 v.2.2.2.2.2.2.2.2.1,.int .u64 v.2.2.2.2.2.2.2.2.2]]⟩
def q1vy (C:q1vn) (v:q1vs):Dt q1vw:=(Dt.ret ((v.1 == v.2.2.2.1),v.1,v.2.1,v.2.2.1,v.2.2.2.1,v.2.2.2.2.1,v.2.2.2.2.2.1,v.2.2.2.2.2.2.1,v.2.2.2.2.2.2.2.1,v.2.2.2.2.2.2.2.2))
theorem q1vz C v:q3zv (regO (qcz f85) 1) false (an [2,3,4,12]) q1vt q1vy q1vx C v:=rgI (by kernel_rfl)
abbrev q1w0:Type:=Bool×Int×Int×Bool×Int×Int×Bool×Int×Int
def q1w1 (v:q1w0):St:=⟨[(2,.ptr 0 0),(4,.ptr 1 0),(5,.ptr 2 0)],[.cells [.bool v.1,.int .u64 v.2.1,.int .u64 v.2.2.1],.cells [.bool v.2.2.2.1,.int .u64 v.2.2.2.2.1,.int .u64 v.2.2.2.2.2.1],.cells [.bool v.2.2.2.2.2.2.1,.int .u64 v.2.2.2.2.2.2.2.1,.int .u64 v.2.2.2.2.2.2.2.2]]⟩
def q1w2 (C:q1vn) (v:q1vw):Dt q1w0:=(Dt.ret (v.2.1,v.2.2.1,v.2.2.2.1,v.2.2.2.2.2.2.2.1,v.2.2.2.2.2.2.2.2.1,v.2.2.2.2.2.2.2.2.2,v.2.1,(IntKind.wrap .u64 (v.2.2.1 + v.2.2.2.2.2.1)),(IntKind.wrap .u64 (v.2.2.2.1 + v.2.2.2.2.2.2.1))))
theorem q1w3 C v:q3zv (regO (qcz f85) 2) false (an [2,4,5]) q1vx q1w2 q1w1 C v:=rgI (by kernel_rfl)
abbrev q1w4:Type:=Bool×Bool×Int×Int×Bool×Int×Int
def q1w5 (v:q1w4):St:=⟨[(4,.ptr 0 0),(5,.ptr 1 0),(30,.bool v.1)],[.cells [.bool v.2.1,.int .u64 v.2.2.1,.int .u64 v.2.2.2.1],.cells [.bool v.2.2.2.2.1,.int .u64 v.2.2.2.2.2.1,.int .u64 v.2.2.2.2.2.2]]⟩
def q1w6 (C:q1vn) (v:q1w0):Dt q1w4:=(Dt.ret ((decide (v.2.2.2.2.2.2.2.2 < v.2.2.1)),v.2.2.2.1,v.2.2.2.2.1,v.2.2.2.2.2.1,v.2.2.2.2.2.2.1,v.2.2.2.2.2.2.2.1,v.2.2.2.2.2.2.2.2))
theorem q1w7 C v:q3zv (regO (qcz f85) 3) false (an [4,5,30]) q1w1 q1w6 q1w5 C v:=rgI (by kernel_rfl)
abbrev q1w8:Type:=Bool×Int×Int×Bool×Int×Int
def q1w9 (v:q1w8):St:=⟨[(4,.ptr 0 0),(5,.ptr 1 0)],[.cells [.bool v.1,.int .u64 v.2.1,.int .u64 v.2.2.1],.cells [.bool v.2.2.2.1,.int .u64 v.2.2.2.2.1,.int .u64 v.2.2.2.2.2]]⟩
def q1wa (C:q1vn) (v:q1w4):Dt q1w8:=(Dt.ret (v.2.1,v.2.2.1,v.2.2.2.1,v.2.2.2.2.1,(IntKind.wrap .u64 (v.2.2.2.2.2.1 + (1:Int))),v.2.2.2.2.2.2))
theorem q1wb C v:q3zv (regO (qcz f85) 4) false (an [4,5]) q1w5 q1wa q1w9 C v:=rgI (by kernel_rfl)
abbrev q1wc:Type:=Bool×Int×Int
def q1wd (v:q1wc):St:=⟨[(4,.ptr 0 0)],[.cells [.bool v.1,.int .u64 v.2.1,.int .u64 v.2.2]]⟩
def q1we (C:q1vn) (v:q1w8):Dt q1wc:=(Dt.ret (v.2.2.2.1,v.2.2.2.2.1,v.2.2.2.2.2))
theorem q1wf C v:q3zv (regO (qcz f85) 5) false [(4,.any)] q1w9 q1we q1wd C v:=rgI (by kernel_rfl)
def q1wg  (d:Nat)  (z:Bool×Int×Int×Bool×Int×Int):Option (q1vk) :=
 (q1we (q1vo d) z).eval fun y5 =>
 some y5
abbrev q1wh:Type:=Bool×Bool×Int×Int×Bool×Int×Int×Bool×Int×Int
def q1wi (v:q1wh):St:=⟨[(2,.ptr 0 0),(3,.ptr 1 0),(4,.ptr 2 0),(39,.bool v.1)],[.cells [.bool v.2.1,.int .u64 v.2.2.1,.int .u64 v.2.2.2.1],.cells [.bool v.2.2.2.2.1,.int .u64 v.2.2.2.2.2.1,.int .u64 v.2.2.2.2.2.2.1],.cells [.bool v.2.2.2.2.2.2.2.1,.int .u64 v.2.2.2.2.2.2.2.2.1,.int .u64 v.2.2.2.2.2.2.2.2.2]]⟩
def q1wj (C:q1vn) (v:q1vw):Dt q1wh:=(Dt.bnd (C.1 ((v.2.1,v.2.2.1,v.2.2.2.1,()),(v.2.2.2.2.1,v.2.2.2.2.2.1,v.2.2.2.2.2.2.1,()),())) fun r1=>(Dt.ret ((decide (r1 ≥ (0:Int))),v.2.1,v.2.2.1,v.2.2.2.1,v.2.2.2.2.1,v.2.2.2.2.2.1,v.2.2.2.2.2.2.1,v.2.2.2.2.2.2.2.1,v.2.2.2.2.2.2.2.2.1,v.2.2.2.2.2.2.2.2.2)))
theorem q1wk C v:q3zv (regO (qcz f85) 6) false (an [2,3,4,39]) q1vx q1wj q1wi C v:=rgI (by kernel_rfl)
abbrev q1wl:Type:=Bool×Int×Int×Bool×Int×Int×Bool×Int×Int
def q1wm (v:q1wl):St:=⟨[(2,.ptr 0 0),(4,.ptr 1 0),(6,.ptr 2 0)],[.cells [.bool v.1,.int .u64 v.2.1,.int .u64 v.2.2.1],.cells [.bool v.2.2.2.1,.int .u64 v.2.2.2.2.1,.int .u64 v.2.2.2.2.2.1],.cells [.bool v.2.2.2.2.2.2.1,.int .u64 v.2.2.2.2.2.2.2.1,.int .u64 v.2.2.2.2.2.2.2.2]]⟩
def q1wn (C:q1vn) (v:q1wh):Dt q1wl:=(Dt.bnd (C.2.1 ((v.2.1,v.2.2.1,v.2.2.2.1,()),(v.2.2.2.2.1,v.2.2.2.2.2.1,v.2.2.2.2.2.2.1,()),())) fun r1=>(Dt.ret (v.2.1,v.2.2.1,v.2.2.2.1,v.2.2.2.2.2.2.2.1,v.2.2.2.2.2.2.2.2.1,v.2.2.2.2.2.2.2.2.2,r1.1,r1.2.1,r1.2.2)))
theorem q1wo C v:q3zv (regO (qcz f85) 7) false (an [2,4,6]) q1wi q1wn q1wm C v:=rgI (by kernel_rfl)
abbrev q1wp:Type:=Bool×Int×Int×Bool×Int×Int
def q1wq (v:q1wp):St:=⟨[(4,.ptr 0 0),(6,.ptr 1 0)],[.cells [.bool v.1,.int .u64 v.2.1,.int .u64 v.2.2.1],.cells [.bool v.2.2.2.1,.int .u64 v.2.2.2.2.1,.int .u64 v.2.2.2.2.2]]⟩
def q1wr (C:q1vn) (v:q1wl):Dt q1wp:=(Dt.ite v.1 (Dt.ite (decide (v.2.2.2.2.2.2.2.1 > (0:Int))) (Dt.ret (v.2.2.2.1,v.2.2.2.2.1,v.2.2.2.2.2.1,true,v.2.2.2.2.2.2.2.1,v.2.2.2.2.2.2.2.2)) (Dt.ret (v.2.2.2.1,v.2.2.2.2.1,v.2.2.2.2.2.1,(decide (v.2.2.2.2.2.2.2.2 > (0:Int))),v.2.2.2.2.2.2.2.1,v.2.2.2.2.2.2.2.2))) (Dt.ret (v.2.2.2.1,v.2.2.2.2.1,v.2.2.2.2.2.1,false,v.2.2.2.2.2.2.2.1,v.2.2.2.2.2.2.2.2)))
theorem q1ws C v:q3zv (regO (qcz f85) 8) false (an [4,6]) q1wm q1wr q1wq C v:=rgI (by kernel_rfl)
def q1wt (C:q1vn) (v:q1wp):Dt q1wc:=(Dt.ret (v.2.2.2.1,v.2.2.2.2.1,v.2.2.2.2.2))
theorem q1wu C v:q3zv (regO (qcz f85) 9) false [(4,.any)] q1wq q1wt q1wd C v:=rgI (by kernel_rfl)
abbrev q1wv:Type:=Bool×Int×Int×Bool×Int×Int×Bool×Int×Int
def q1ww (v:q1wv):St:=⟨[(3,.ptr 0 0),(4,.ptr 1 0),(7,.ptr 2 0)],[.cells [.bool v.1,.int .u64 v.2.1,.int .u64 v.2.2.1],.cells [.bool v.2.2.2.1,.int .u64 v.2.2.2.2.1,.int .u64 v.2.2.2.2.2.1],.cells [.bool v.2.2.2.2.2.2.1,.int .u64 v.2.2.2.2.2.2.2.1,.int .u64 v.2.2.2.2.2.2.2.2]]⟩
def q1wx (C:q1vn) (v:q1wh):Dt q1wv:=(Dt.bnd (C.2.1 ((v.2.2.2.2.1,v.2.2.2.2.2.1,v.2.2.2.2.2.2.1,()),(v.2.1,v.2.2.1,v.2.2.2.1,()),())) fun r1=>(Dt.ret (v.2.2.2.2.1,v.2.2.2.2.2.1,v.2.2.2.2.2.2.1,v.2.2.2.2.2.2.2.1,v.2.2.2.2.2.2.2.2.1,v.2.2.2.2.2.2.2.2.2,r1.1,r1.2.1,r1.2.2)))
theorem q1wy C v:q3zv (regO (qcz f85) 10) false (an [3,4,7]) q1wi q1wx q1ww C v:=rgI (by kernel_rfl)
abbrev q1wz:Type:=Bool×Int×Int×Bool×Int×Int
def q1x0 (v:q1wz):St:=⟨[(4,.ptr 0 0),(7,.ptr 1 0)],[.cells [.bool v.1,.int .u64 v.2.1,.int .u64 v.2.2.1],.cells [.bool v.2.2.2.1,.int .u64 v.2.2.2.2.1,.int .u64 v.2.2.2.2.2]]⟩
def q1x1 (C:q1vn) (v:q1wv):Dt q1wz:=(Dt.ret (v.2.2.2.1,v.2.2.2.2.1,v.2.2.2.2.2.1,v.1,v.2.2.2.2.2.2.2.1,v.2.2.2.2.2.2.2.2))
theorem q1x2 C v:q3zv (regO (qcz f85) 11) false (an [4,7]) q1ww q1x1 q1x0 C v:=rgI (by kernel_rfl)
def q1x3 (C:q1vn) (v:q1wz):Dt q1wc:=(Dt.ret (v.2.2.2.1,v.2.2.2.2.1,v.2.2.2.2.2))
theorem q1x4 C v:q3zv (regO (qcz f85) 12) false [(4,.any)] q1x0 q1x3 q1wd C v:=rgI (by kernel_rfl)
def q1x5 (d:Nat) (x:q1vj):Option q1vk :=
 (q1vu (q1vo d) (x.1.1,x.1.2.1,x.1.2.2.1,x.2.1.1,x.2.1.2.1,x.2.1.2.2.1)).eval fun y0 =>
 (q1vy (q1vo d) y0).eval fun y1 =>
 bif y1.1 then ((q1w2 (q1vo d) y1).eval fun y2 =>
 (q1w6 (q1vo d) y2).eval fun y3 =>
 bif y3.1 then ((q1wa (q1vo d) y3).eval fun y4 =>
 q1wg d  y4) else (q1wg d  y3.2)) else ((q1wj (q1vo d) y1).eval fun y6 =>
 bif y6.1 then ((q1wn (q1vo d) y6).eval fun y7 =>
 (q1wr (q1vo d) y7).eval fun y8 =>
 (q1wt (q1vo d) y8).eval fun y9 =>
 some y9) else ((q1wx (q1vo d) y6).eval fun y10 =>
 (q1x1 (q1vo d) y10).eval fun y11 =>
 (q1x3 (q1vo d) y11).eval fun y12 =>
 some y12))
theorem q1x6 (d:Nat):COK prog (q1vm (q1x5 d)):=by
 have hm:prog.follows .mixedOrders=true:=qju
 have hT:=tys
 have hC0:OrcOK prog (orc (q1vp (q1vo d))):=qct (by
  intro S hS
  simp only [q1vp,List.mem_cons,List.not_mem_nil,or_false] at hS
  rcases hS with rfl | rfl
  · exact q1uk d
  · exact q1vh d)
 have hC:OrcOK prog (orc (q1vp (q1vo d))):=hC0
 refine q8f (c:=qcz f85) (fn:=f85) hT (by kernel_rfl) (by kernel_rfl) (by decide) fun x r h w0 φ0 Q hend=>?_
 replace h:q1x5 d x=some r:=h
 unfold q1x5 at h
 show Run prog w0 φ0 64 (qcz f85) ⟨[(0,.agg [.bool x.1.1,.int .u64 x.1.2.1,.int .u64 x.1.2.2.1]),(1,.agg [.bool x.2.1.1,.int .u64 x.2.1.2.1,.int .u64 x.2.1.2.2.1])],[]⟩ Q
 refine q3yy hm hT hC (q1vv (q1vo d) (x.1.1,x.1.2.1,x.1.2.2.1,x.2.1.1,x.2.1.2.1,x.2.1.2.2.1)) h fun y0 h=>?_
 refine q7z ?_
 refine q3yy hm hT hC (q1vz (q1vo d) y0) h fun y1 h=>?_
 refine q83 (v:=y1.1) (by kernel_rfl) h ?_ ?_
 ·
  intro h
  refine q3yy hm hT hC (q1w3 (q1vo d) y1) h fun y2 h=>?_
  refine q82 (r:=r) (F:=q1wg d ) (S:=(fun z=>⟨[(4,.ptr 0 0),(5,.ptr 1 0)],[.cells [.bool z.1,.int .u64 z.2.1,.int .u64 z.2.2.1],.cells [.bool z.2.2.2.1,.int .u64 z.2.2.2.2.1,.int .u64 z.2.2.2.2.2]]⟩:q1jz→St)) ?_ ?_
  ·
   intro z h
   unfold q1wg at h
   refine q3yy hm hT hC (q1wf (q1vo d) z) h fun y5 h=>?_
   refine q7y (q7n ?_)
   cases h
   exact (hend _ (by kernel_rfl)).2
  intro hj1
  refine q3yy hm hT hC (q1w7 (q1vo d) y2) h fun y3 h=>?_
  refine q83 (v:=y3.1) (by kernel_rfl) h ?_ ?_
  ·
   intro h
   refine q84 hm hT hC (q1wb (q1vo d) y3) h ?_
   intro y4 h
   exact hj1 _ h
  ·
   intro h
   refine q7v ?_
   refine qcy (s:=⟨[(4,.ptr 0 0),(5,.ptr 1 0)],[.cells [.bool y3.2.1,.int .u64 y3.2.2.1,.int .u64 y3.2.2.2.1],.cells [.bool y3.2.2.2.2.1,.int .u64 y3.2.2.2.2.2.1,.int .u64 y3.2.2.2.2.2.2]]⟩) [30] (by kernel_rfl) ?_
   exact hj1 _ h
 ·
  intro h
  refine q7v (q7l (q7z ?_))
  refine q3yy hm hT hC (q1wk (q1vo d) y1) h fun y6 h=>?_
  refine q83 (v:=y6.1) (by kernel_rfl) h ?_ ?_
  ·
   intro h
   refine q3yy hm hT hC (q1wo (q1vo d) y6) h fun y7 h=>?_
   refine q3yy hm hT hC (q1ws (q1vo d) y7) h fun y8 h=>?_
   refine q3yy hm hT hC (q1wu (q1vo d) y8) h fun y9 h=>?_
   refine q7y (q7n ?_)
   cases h
   exact (hend _ (by kernel_rfl)).2
  ·
   intro h
   refine q7v (q7l ?_)
   refine q3yy hm hT hC (q1wy (q1vo d) y6) h fun y10 h=>?_
   refine q3yy hm hT hC (q1x2 (q1vo d) y10) h fun y11 h=>?_
   refine q3yy hm hT hC (q1x4 (q1vo d) y11) h fun y12 h=>?_
   refine q7y ?_
   cases h
   exact (hend _ (by kernel_rfl)).2
abbrev q1x7:List Pk:=[.row Rbuu true,.row Ru false]
abbrev q1x8:Type:=Dbuu×Du×Unit
abbrev q1x9:Type:=Bool×Int×Int×Int
def q1xa (r:q1x9):LV×List Ob:=(.tup [.agg [.bool r.1,.int .u64 r.2.1,.int .u64 r.2.2.1],.int .u64 r.2.2.2],[])
def q1xb (F:q1x8→Option q1x9):Go.Tx.Spec:=⟨87,q1x7,q1x9,F,q1xa⟩
abbrev q1xc:Type:=Unit
def q1xd (_d:Nat):q1xc:=()
def q1xe (C:q1xc):List Go.Tx.Spec:=[]
abbrev q1xf:Type:=Bool×Int×Int×Int
def q1xg (v:q1xf):St:=⟨[(0,.agg [.bool v.1,.int .u64 v.2.1,.int .u64 v.2.2.1]),(1,.int .u64 v.2.2.2)],[]⟩
abbrev q1xh:Type:=Int×Bool×Int×Int×Bool×Int×Int
def q1xi (v:q1xh):St:=⟨[(1,.int .u64 v.1),(2,.ptr 0 0),(4,.ptr 1 0)],[.cells [.bool v.2.1,.int .u64 v.2.2.1,.int .u64 v.2.2.2.1],.cells [.bool v.2.2.2.2.1,.int .u64 v.2.2.2.2.2.1,.int .u64 v.2.2.2.2.2.2]]⟩
def q1xj (C:q1xc) (v:q1xf):Dt q1xh:=(Dt.ret (v.2.2.2,v.1,v.2.1,v.2.2.1,false,(0:Int),(0:Int)))
abbrev q3zw {V Y:Type}:=@rg q1xc V Y tysT (fun C=>(orc (q1xe C))) 54
theorem q1xk C v:q3zw (regO (qcz f87) 0) false (an [1,2,4]) q1xg q1xj q1xi C v:=rgI (by kernel_rfl)
abbrev q1xl:Type:=Int×Bool×Int×Int×Bool×Int×Int×Bool×Int×Int
def q1xm (v:q1xl):St:=⟨[(1,.int .u64 v.1),(2,.ptr 0 0),(4,.ptr 1 0),(6,.ptr 2 0)],[.cells [.bool v.2.1,.int .u64 v.2.2.1,.int .u64 v.2.2.2.1],.cells [.bool v.2.2.2.2.1,.int .u64 v.2.2.2.2.2.1,.int .u64 v.2.2.2.2.2.2.1],.cells [.bool v.2.2.2.2.2.2.2.1,.int .u64 v.2.2.2.2.2.2.2.2.1,.int .u64 v.2.2.2.2.2.2.2.2.2]]⟩
def q1xn (C:q1xc) (v:q1xh):Dt q1xl:=(Dt.ret (v.1,v.2.1,v.2.2.1,v.2.2.2.1,v.2.2.2.2.1,v.2.2.2.2.2.1,v.2.2.2.2.2.2,false,(0:Int),(0:Int)))
theorem q1xo C v:q3zw (regO (qcz f87) 1) false (an [1,2,4,6]) q1xi q1xn q1xm C v:=rgI (by kernel_rfl)
abbrev q1xp:Type:=Int×Int×Bool×Int×Int×Bool×Int×Int×Bool×Int×Int
def q1xq (v:q1xp):St:=⟨[(1,.int .u64 v.1),(2,.ptr 0 0),(4,.ptr 1 0),(6,.ptr 2 0),(7,.int .u64 v.2.1)],[.cells [.bool v.2.2.1,.int .u64 v.2.2.2.1,.int .u64 v.2.2.2.2.1],.cells [.bool v.2.2.2.2.2.1,.int .u64 v.2.2.2.2.2.2.1,.int .u64 v.2.2.2.2.2.2.2.1],.cells [.bool v.2.2.2.2.2.2.2.2.1,.int .u64 v.2.2.2.2.2.2.2.2.2.1,.int .u64 v.2.2.2.2.2.2.2.2.2.2]]⟩
def q1xr (C:q1xc) (v:q1xl):Dt q1xp:=(Dt.ret (v.1,(0:Int),v.2.1,v.2.2.1,v.2.2.2.1,v.2.2.2.2.1,v.2.2.2.2.2.1,v.2.2.2.2.2.2.1,v.2.2.2.2.2.2.2.1,v.2.2.2.2.2.2.2.2.1,v.2.2.2.2.2.2.2.2.2))
theorem q1xs C v:q3zw (regO (qcz f87) 2) false (an [1,2,4,6,7]) q1xm q1xr q1xq C v:=rgI (by kernel_rfl)
abbrev q1xt:Type:=Int×Int×Int×Bool×Int×Int×Bool×Int×Int×Bool×Int×Int
def q1xu (v:q1xt):St:=⟨[(1,.int .u64 v.1),(2,.ptr 0 0),(4,.ptr 1 0),(6,.ptr 2 0),(7,.int .u64 v.2.1),(8,.int .i64 v.2.2.1)],[.cells [.bool v.2.2.2.1,.int .u64 v.2.2.2.2.1,.int .u64 v.2.2.2.2.2.1],.cells [.bool v.2.2.2.2.2.2.1,.int .u64 v.2.2.2.2.2.2.2.1,.int .u64 v.2.2.2.2.2.2.2.2.1],.cells [.bool v.2.2.2.2.2.2.2.2.2.1,.int .u64 v.2.2.2.2.2.2.2.2.2.2.1,.int .u64 v.2.2.2.2.2.2.2.2.2.2.2]]⟩
def q1xv (C:q1xc) (v:q1xp):Dt q1xt:=(Dt.ret (v.1,v.2.1,(127:Int),v.2.2.1,v.2.2.2.1,v.2.2.2.2.1,v.2.2.2.2.2.1,v.2.2.2.2.2.2.1,v.2.2.2.2.2.2.2.1,v.2.2.2.2.2.2.2.2.1,v.2.2.2.2.2.2.2.2.2.1,v.2.2.2.2.2.2.2.2.2.2))
theorem q1xw C v:q3zw (regO (qcz f87) 3) false (an [1,2,4,6,7,8]) q1xq q1xv q1xu C v:=rgI (by kernel_rfl)
abbrev q1xx:Type:=Int×Int×Int×Bool×Bool×Int×Int×Bool×Int×Int×Bool×Int×Int
def q1xy (v:q1xx):St:=⟨[(1,.int .u64 v.1),(2,.ptr 0 0),(4,.ptr 1 0),(6,.ptr 2 0),(7,.int .u64 v.2.1),(8,.int .i64 v.2.2.1),(11,.bool v.2.2.2.1)],[.cells [.bool v.2.2.2.2.1,.int .u64 v.2.2.2.2.2.1,.int .u64 v.2.2.2.2.2.2.1],.cells [.bool v.2.2.2.2.2.2.2.1,.int .u64 v.2.2.2.2.2.2.2.2.1,.int .u64 v.2.2.2.2.2.2.2.2.2.1],.cells [.bool v.2.2.2.2.2.2.2.2.2.2.1,.int .u64 v.2.2.2.2.2.2.2.2.2.2.2.1,.int .u64 v.2.2.2.2.2.2.2.2.2.2.2.2]]⟩
def q1xz (C:q1xc) (v:q1xt):Dt q1xx:=(Dt.ret (v.1,v.2.1,v.2.2.1,(decide (v.2.2.1 ≥ (0:Int))),v.2.2.2.1,v.2.2.2.2.1,v.2.2.2.2.2.1,v.2.2.2.2.2.2.1,v.2.2.2.2.2.2.2.1,v.2.2.2.2.2.2.2.2.1,v.2.2.2.2.2.2.2.2.2.1,v.2.2.2.2.2.2.2.2.2.2.1,v.2.2.2.2.2.2.2.2.2.2.2))
theorem q1y0 C v:q3zw (regO (qcz f87) 4) false (an [1,2,4,6,7,8,11]) q1xu q1xz q1xy C v:=rgI (by kernel_rfl)
abbrev q1y1:Type:=Int×Int×Int×Int×Bool×Int×Int×Bool×Int×Int×Bool×Int×Int
def q1y2 (v:q1y1):St:=⟨[(1,.int .u64 v.1),(2,.ptr 0 0),(4,.ptr 1 0),(6,.ptr 2 0),(7,.int .u64 v.2.1),(8,.int .i64 v.2.2.1),(9,.int .u64 v.2.2.2.1)],[.cells [.bool v.2.2.2.2.1,.int .u64 v.2.2.2.2.2.1,.int .u64 v.2.2.2.2.2.2.1],.cells [.bool v.2.2.2.2.2.2.2.1,.int .u64 v.2.2.2.2.2.2.2.2.1,.int .u64 v.2.2.2.2.2.2.2.2.2.1],.cells [.bool v.2.2.2.2.2.2.2.2.2.2.1,.int .u64 v.2.2.2.2.2.2.2.2.2.2.2.1,.int .u64 v.2.2.2.2.2.2.2.2.2.2.2.2]]⟩
def q1y3 (C:q1xc) (v:q1xx):Dt q1y1:=(Dt.ite (decide (v.2.2.1 < 0)) Dt.fail (Dt.ret (v.1,v.2.1,v.2.2.1,(andI .u64 (shrI .u64 v.2.2.2.2.2.2.1 v.2.2.1) (1:Int)),v.2.2.2.2.1,v.2.2.2.2.2.1,v.2.2.2.2.2.2.1,v.2.2.2.2.2.2.2.1,v.2.2.2.2.2.2.2.2.1,v.2.2.2.2.2.2.2.2.2.1,v.2.2.2.2.2.2.2.2.2.2.1,v.2.2.2.2.2.2.2.2.2.2.2.1,v.2.2.2.2.2.2.2.2.2.2.2.2)))
theorem q1y4 C v:q3zw (regO (qcz f87) 6) false (an [1,2,4,6,7,8,9]) q1xy q1y3 q1y2 C v:=rgI (by kernel_rfl)
abbrev q1y5:Type:=Int×Int×Int×Int×Bool×Bool×Int×Int×Bool×Int×Int×Bool×Int×Int
def q1y6 (v:q1y5):St:=⟨[(1,.int .u64 v.1),(2,.ptr 0 0),(4,.ptr 1 0),(6,.ptr 2 0),(7,.int .u64 v.2.1),(8,.int .i64 v.2.2.1),(9,.int .u64 v.2.2.2.1),(20,.bool v.2.2.2.2.1)],[.cells [.bool v.2.2.2.2.2.1,.int .u64 v.2.2.2.2.2.2.1,.int .u64 v.2.2.2.2.2.2.2.1],.cells [.bool v.2.2.2.2.2.2.2.2.1,.int .u64 v.2.2.2.2.2.2.2.2.2.1,.int .u64 v.2.2.2.2.2.2.2.2.2.2.1],.cells [.bool v.2.2.2.2.2.2.2.2.2.2.2.1,.int .u64 v.2.2.2.2.2.2.2.2.2.2.2.2.1,.int .u64 v.2.2.2.2.2.2.2.2.2.2.2.2.2]]⟩
def q1y7 (C:q1xc) (v:q1y1):Dt q1y5:=(Dt.ret (v.1,v.2.1,v.2.2.1,v.2.2.2.1,(decide (v.2.2.1 ≥ (64:Int))),v.2.2.2.2.1,v.2.2.2.2.2.1,v.2.2.2.2.2.2.1,v.2.2.2.2.2.2.2.1,v.2.2.2.2.2.2.2.2.1,v.2.2.2.2.2.2.2.2.2.1,v.2.2.2.2.2.2.2.2.2.2.1,v.2.2.2.2.2.2.2.2.2.2.2.1,v.2.2.2.2.2.2.2.2.2.2.2.2))
theorem q1y8 C v:q3zw (regO (qcz f87) 7) false (an [1,2,4,6,7,8,9,20]) q1y2 q1y7 q1y6 C v:=rgI (by kernel_rfl)
def q1y9 (C:q1xc) (v:q1y5):Dt q1y1:=(Dt.ite (decide ((IntKind.wrap .i64 (v.2.2.1 - (64:Int))) < 0)) Dt.fail (Dt.ret (v.1,v.2.1,v.2.2.1,(andI .u64 (shrI .u64 v.2.2.2.2.2.2.1 (IntKind.wrap .i64 (v.2.2.1 - (64:Int)))) (1:Int)),v.2.2.2.2.2.1,v.2.2.2.2.2.2.1,v.2.2.2.2.2.2.2.1,v.2.2.2.2.2.2.2.2.1,v.2.2.2.2.2.2.2.2.2.1,v.2.2.2.2.2.2.2.2.2.2.1,v.2.2.2.2.2.2.2.2.2.2.2.1,v.2.2.2.2.2.2.2.2.2.2.2.2.1,v.2.2.2.2.2.2.2.2.2.2.2.2.2)))
theorem q1ya C v:q3zw (regO (qcz f87) 8) false (an [1,2,4,6,7,8,9]) q1y6 q1y9 q1y2 C v:=rgI (by kernel_rfl)
def q1yb (C:q1xc) (v:q1y1):Dt q1xt:=(Dt.ret (v.1,(IntKind.wrap .u64 ((IntKind.wrap .u64 ((2:Int) * v.2.1)) + v.2.2.2.1)),v.2.2.1,v.2.2.2.2.1,v.2.2.2.2.2.1,v.2.2.2.2.2.2.1,v.2.2.2.2.2.2.2.1,v.2.2.2.2.2.2.2.2.1,v.2.2.2.2.2.2.2.2.2.1,v.2.2.2.2.2.2.2.2.2.2.1,v.2.2.2.2.2.2.2.2.2.2.2.1,v.2.2.2.2.2.2.2.2.2.2.2.2))
theorem q1yc C v:q3zw (regO (qcz f87) 9) false (an [1,2,4,6,7,8]) q1y2 q1yb q1xu C v:=rgI (by kernel_rfl)
abbrev q1yd:Type:=Int×Int×Int×Bool×Bool×Int×Int×Bool×Int×Int×Bool×Int×Int
def q1ye (v:q1yd):St:=⟨[(1,.int .u64 v.1),(2,.ptr 0 0),(4,.ptr 1 0),(6,.ptr 2 0),(7,.int .u64 v.2.1),(8,.int .i64 v.2.2.1),(33,.bool v.2.2.2.1)],[.cells [.bool v.2.2.2.2.1,.int .u64 v.2.2.2.2.2.1,.int .u64 v.2.2.2.2.2.2.1],.cells [.bool v.2.2.2.2.2.2.2.1,.int .u64 v.2.2.2.2.2.2.2.2.1,.int .u64 v.2.2.2.2.2.2.2.2.2.1],.cells [.bool v.2.2.2.2.2.2.2.2.2.2.1,.int .u64 v.2.2.2.2.2.2.2.2.2.2.2.1,.int .u64 v.2.2.2.2.2.2.2.2.2.2.2.2]]⟩
def q1yf (C:q1xc) (v:q1xt):Dt q1yd:=(Dt.ret (v.1,v.2.1,v.2.2.1,(decide (v.2.1 ≥ v.1)),v.2.2.2.1,v.2.2.2.2.1,v.2.2.2.2.2.1,v.2.2.2.2.2.2.1,v.2.2.2.2.2.2.2.1,v.2.2.2.2.2.2.2.2.1,v.2.2.2.2.2.2.2.2.2.1,v.2.2.2.2.2.2.2.2.2.2.1,v.2.2.2.2.2.2.2.2.2.2.2))
theorem q1yg C v:q3zw (regO (qcz f87) 10) false (an [1,2,4,6,7,8,33]) q1xu q1yf q1ye C v:=rgI (by kernel_rfl)
def q1yh (C:q1xc) (v:q1yd):Dt q1xt:=(Dt.ret (v.1,(IntKind.wrap .u64 (v.2.1 - v.1)),v.2.2.1,v.2.2.2.2.1,v.2.2.2.2.2.1,v.2.2.2.2.2.2.1,v.2.2.2.2.2.2.2.1,v.2.2.2.2.2.2.2.2.1,v.2.2.2.2.2.2.2.2.2.1,v.2.2.2.2.2.2.2.2.2.2.1,v.2.2.2.2.2.2.2.2.2.2.2.1,v.2.2.2.2.2.2.2.2.2.2.2.2))
theorem q1yi C v:q3zw (regO (qcz f87) 11) false (an [1,2,4,6,7,8]) q1ye q1yh q1xu C v:=rgI (by kernel_rfl)
abbrev q1yj:Type:=Int×Int×Int×Bool×Bool×Int×Int×Bool×Int×Int×Bool×Int×Int
def q1yk (v:q1yj):St:=⟨[(1,.int .u64 v.1),(2,.ptr 0 0),(4,.ptr 1 0),(6,.ptr 2 0),(7,.int .u64 v.2.1),(8,.int .i64 v.2.2.1),(38,.bool v.2.2.2.1)],[.cells [.bool v.2.2.2.2.1,.int .u64 v.2.2.2.2.2.1,.int .u64 v.2.2.2.2.2.2.1],.cells [.bool v.2.2.2.2.2.2.2.1,.int .u64 v.2.2.2.2.2.2.2.2.1,.int .u64 v.2.2.2.2.2.2.2.2.2.1],.cells [.bool v.2.2.2.2.2.2.2.2.2.2.1,.int .u64 v.2.2.2.2.2.2.2.2.2.2.2.1,.int .u64 v.2.2.2.2.2.2.2.2.2.2.2.2]]⟩
def q1yl (C:q1xc) (v:q1xt):Dt q1yj:=(Dt.ret (v.1,v.2.1,v.2.2.1,(decide (v.2.2.1 ≥ (64:Int))),v.2.2.2.1,v.2.2.2.2.1,v.2.2.2.2.2.1,v.2.2.2.2.2.2.1,v.2.2.2.2.2.2.2.1,v.2.2.2.2.2.2.2.2.1,v.2.2.2.2.2.2.2.2.2.1,v.2.2.2.2.2.2.2.2.2.2.1,v.2.2.2.2.2.2.2.2.2.2.2))
theorem q1ym C v:q3zw (regO (qcz f87) 12) false (an [1,2,4,6,7,8,38]) q1xu q1yl q1yk C v:=rgI (by kernel_rfl)
def q1yn (C:q1xc) (v:q1yj):Dt q1xt:=(Dt.ite (decide ((IntKind.wrap .i64 (v.2.2.1 - (64:Int))) < 0)) Dt.fail (Dt.ret (v.1,v.2.1,v.2.2.1,v.2.2.2.2.1,v.2.2.2.2.2.1,v.2.2.2.2.2.2.1,v.2.2.2.2.2.2.2.1,v.2.2.2.2.2.2.2.2.1,v.2.2.2.2.2.2.2.2.2.1,v.2.2.2.2.2.2.2.2.2.2.1,(orI .u64 v.2.2.2.2.2.2.2.2.2.2.2.1 (shlI .u64 (1:Int) (IntKind.wrap .i64 (v.2.2.1 - (64:Int))))),v.2.2.2.2.2.2.2.2.2.2.2.2)))
theorem q1yo C v:q3zw (regO (qcz f87) 13) true (an [1,2,4,6,7,8]) q1yk q1yn q1xu C v:=rgI (by kernel_rfl)
def q1yp (C:q1xc) (v:q1xt):Dt q1xt:=(Dt.ret (v.1,v.2.1,(IntKind.wrap .i64 (v.2.2.1 - (1:Int))),v.2.2.2.1,v.2.2.2.2.1,v.2.2.2.2.2.1,v.2.2.2.2.2.2.1,v.2.2.2.2.2.2.2.1,v.2.2.2.2.2.2.2.2.1,v.2.2.2.2.2.2.2.2.2.1,v.2.2.2.2.2.2.2.2.2.2.1,v.2.2.2.2.2.2.2.2.2.2.2))
theorem q1yq C v:q3zw (regO (qcz f87) 5) false (an [1,2,4,6,7,8]) q1xu q1yp q1xu C v:=rgI (by kernel_rfl)
def q1yr  (d:Nat) (self1:(Int×Int×Int×Bool×Int×Int×Bool×Int×Int×Bool×Int×Int)→Option q1x9) (z:Int×Int×Int×Bool×Int×Int×Bool×Int×Int×Bool×Int×Int):Option (q1x9) :=
 (q1yp (q1xd d) z).eval fun y5 =>
 self1 y5
def q1ys (C:q1xc) (v:q1yj):Dt q1xt:=(Dt.ite (decide (v.2.2.1 < 0)) Dt.fail (Dt.ret (v.1,v.2.1,v.2.2.1,v.2.2.2.2.1,v.2.2.2.2.2.1,v.2.2.2.2.2.2.1,v.2.2.2.2.2.2.2.1,v.2.2.2.2.2.2.2.2.1,v.2.2.2.2.2.2.2.2.2.1,v.2.2.2.2.2.2.2.2.2.2.1,v.2.2.2.2.2.2.2.2.2.2.2.1,(orI .u64 v.2.2.2.2.2.2.2.2.2.2.2.2 (shlI .u64 (1:Int) v.2.2.1)))))
theorem q1yt C v:q3zw (regO (qcz f87) 14) true (an [1,2,4,6,7,8]) q1yk q1ys q1xu C v:=rgI (by kernel_rfl)
def q1yu  (d:Nat) (self1:(Int×Int×Int×Bool×Int×Int×Bool×Int×Int×Bool×Int×Int)→Option q1x9) (z:Int×Int×Int×Int×Bool×Int×Int×Bool×Int×Int×Bool×Int×Int):Option (q1x9) :=
 (q1yb (q1xd d) z).eval fun y9 =>
 (q1yf (q1xd d) y9).eval fun y10 =>
 bif y10.2.2.2.1 then ((q1yh (q1xd d) y10).eval fun y11 =>
 (q1yl (q1xd d) y11).eval fun y12 =>
 bif y12.2.2.2.1 then ((q1yn (q1xd d) y12).eval fun y13 =>
 q1yr d self1 y13) else ((q1ys (q1xd d) y12).eval fun y14 =>
 q1yr d self1 y14)) else (q1yr d self1 (y10.1,y10.2.1,y10.2.2.1,y10.2.2.2.2.1,y10.2.2.2.2.2.1,y10.2.2.2.2.2.2.1,y10.2.2.2.2.2.2.2.1,y10.2.2.2.2.2.2.2.2.1,y10.2.2.2.2.2.2.2.2.2.1,y10.2.2.2.2.2.2.2.2.2.2.1,y10.2.2.2.2.2.2.2.2.2.2.2.1,y10.2.2.2.2.2.2.2.2.2.2.2.2))
abbrev q1yv:Type:=Int×Bool×Int×Int
def q1yw (v:q1yv):St:=⟨[(4,.ptr 0 0),(5,.int .u64 v.1)],[.cells [.bool v.2.1,.int .u64 v.2.2.1,.int .u64 v.2.2.2]]⟩
def q1yx (C:q1xc) (v:q1xx):Dt q1yv:=(Dt.ret (v.2.1,v.2.2.2.2.2.2.2.2.2.2.1,v.2.2.2.2.2.2.2.2.2.2.2.1,v.2.2.2.2.2.2.2.2.2.2.2.2))
theorem q1yy C v:q3zw (regO (qcz f87) 15) false (an [4,5]) q1xy q1yx q1yw C v:=rgI (by kernel_rfl)
def q1yz (d:Nat) (self1:(Int×Int×Int×Bool×Int×Int×Bool×Int×Int×Bool×Int×Int)→Option q1x9) (x1:Int×Int×Int×Bool×Int×Int×Bool×Int×Int×Bool×Int×Int):Option q1x9 :=
 (q1xz (q1xd d) x1).eval fun y4 =>
 bif y4.2.2.2.1 then ((q1y3 (q1xd d) y4).eval fun y6 =>
 (q1y7 (q1xd d) y6).eval fun y7 =>
 bif y7.2.2.2.2.1 then ((q1y9 (q1xd d) y7).eval fun y8 =>
 q1yu d self1 y8) else (q1yu d self1 (y7.1,y7.2.1,y7.2.2.1,y7.2.2.2.1,y7.2.2.2.2.2.1,y7.2.2.2.2.2.2.1,y7.2.2.2.2.2.2.2.1,y7.2.2.2.2.2.2.2.2.1,y7.2.2.2.2.2.2.2.2.2.1,y7.2.2.2.2.2.2.2.2.2.2.1,y7.2.2.2.2.2.2.2.2.2.2.2.1,y7.2.2.2.2.2.2.2.2.2.2.2.2.1,y7.2.2.2.2.2.2.2.2.2.2.2.2.2))) else ((q1yx (q1xd d) y4).eval fun y15 =>
 some (y15.2.1,y15.2.2.1,y15.2.2.2,y15.1))
def q1z0 (d:Nat) (x:q1x8):Option q1x9 :=
 (q1xj (q1xd d) (x.1.1,x.1.2.1,x.1.2.2.1,x.2.1.1)).eval fun y0 =>
 (q1xn (q1xd d) y0).eval fun y1 =>
 (q1xr (q1xd d) y1).eval fun y2 =>
 (q1xv (q1xd d) y2).eval fun y3 =>
 iter (q1yz d ) d y3
theorem q1z1 (d:Nat):COK prog (q1xb (q1z0 d)):=by
 have hm:prog.follows .mixedOrders=true:=qju
 have hT:=tys
 have hC0:OrcOK prog (orc (q1xe (q1xd d))):=qct (by
  intro S hS
  simp only [q1xe,List.mem_cons,List.not_mem_nil,or_false] at hS
  all_goals first | cases hS | exact hS.elim)
 have hC:OrcOK prog (orc (q1xe (q1xd d))):=hC0
 refine q8f (c:=qcz f87) (fn:=f87) hT (by kernel_rfl) (by kernel_rfl) (by decide) fun x r h w0 φ0 Q hend=>?_
 replace h:q1z0 d x=some r:=h
 unfold q1z0 at h
 show Run prog w0 φ0 54 (qcz f87) ⟨[(0,.agg [.bool x.1.1,.int .u64 x.1.2.1,.int .u64 x.1.2.2.1]),(1,.int .u64 x.2.1.1)],[]⟩ Q
 refine q3yy hm hT hC (q1xk (q1xd d) (x.1.1,x.1.2.1,x.1.2.2.1,x.2.1.1)) h fun y0 h=>?_
 refine q3yy hm hT hC (q1xo (q1xd d) y0) h fun y1 h=>?_
 refine q3yy hm hT hC (q1xs (q1xd d) y1) h fun y2 h=>?_
 refine q7z ?_
 refine q3yy hm hT hC (q1xw (q1xd d) y2) h fun y3 h=>?_
 refine q80 ?_
 refine q85 (G:=iter (q1yz d )) (S:=(fun x1=>⟨[(1,.int .u64 x1.1),(2,.ptr 0 0),(4,.ptr 1 0),(6,.ptr 2 0),(7,.int .u64 x1.2.1),(8,.int .i64 x1.2.2.1)],[.cells [.bool x1.2.2.2.1,.int .u64 x1.2.2.2.2.1,.int .u64 x1.2.2.2.2.2.1],.cells [.bool x1.2.2.2.2.2.2.1,.int .u64 x1.2.2.2.2.2.2.2.1,.int .u64 x1.2.2.2.2.2.2.2.2.1],.cells [.bool x1.2.2.2.2.2.2.2.2.2.1,.int .u64 x1.2.2.2.2.2.2.2.2.2.2.1,.int .u64 x1.2.2.2.2.2.2.2.2.2.2.2]]⟩:q1xt→St)) (fun _=>rfl) ?_ d _ h
 intro n1 x1 h K1 hn1
 replace h:q1yz d  (iter (q1yz d ) n1) x1=some r:=h
 generalize iter (q1yz d ) n1=self1 at h hn1
 unfold q1yz at h
 refine q7z ?_
 refine q3yy hm hT hC (q1y0 (q1xd d) x1) h fun y4 h=>?_
 refine q83 (v:=y4.2.2.2.1) (by kernel_rfl) h ?_ ?_
 ·
  intro h
  refine q7v (q7l ?_)
  refine q82 (r:=r) (F:=q1yr d self1) (S:=(fun z=>⟨[(1,.int .u64 z.1),(2,.ptr 0 0),(4,.ptr 1 0),(6,.ptr 2 0),(7,.int .u64 z.2.1),(8,.int .i64 z.2.2.1)],[.cells [.bool z.2.2.2.1,.int .u64 z.2.2.2.2.1,.int .u64 z.2.2.2.2.2.1],.cells [.bool z.2.2.2.2.2.2.1,.int .u64 z.2.2.2.2.2.2.2.1,.int .u64 z.2.2.2.2.2.2.2.2.1],.cells [.bool z.2.2.2.2.2.2.2.2.2.1,.int .u64 z.2.2.2.2.2.2.2.2.2.2.1,.int .u64 z.2.2.2.2.2.2.2.2.2.2.2]]⟩:q1xt→St)) ?_ ?_
  ·
   intro z h
   unfold q1yr at h
   refine q84 hm hT hC (q1yq (q1xd d) z) h ?_
   intro y5 h
   exact hn1 _ h
  intro hj2
  refine q80 ?_
  refine q3yy hm hT hC (q1y4 (q1xd d) y4) h fun y6 h=>?_
  refine q82 (r:=r) (F:=q1yu d self1) (S:=(fun z=>⟨[(1,.int .u64 z.1),(2,.ptr 0 0),(4,.ptr 1 0),(6,.ptr 2 0),(7,.int .u64 z.2.1),(8,.int .i64 z.2.2.1),(9,.int .u64 z.2.2.2.1)],[.cells [.bool z.2.2.2.2.1,.int .u64 z.2.2.2.2.2.1,.int .u64 z.2.2.2.2.2.2.1],.cells [.bool z.2.2.2.2.2.2.2.1,.int .u64 z.2.2.2.2.2.2.2.2.1,.int .u64 z.2.2.2.2.2.2.2.2.2.1],.cells [.bool z.2.2.2.2.2.2.2.2.2.2.1,.int .u64 z.2.2.2.2.2.2.2.2.2.2.2.1,.int .u64 z.2.2.2.2.2.2.2.2.2.2.2.2]]⟩:q1y1→St)) ?_ ?_
  ·
   intro z h
   unfold q1yu at h
   refine q3yy hm hT hC (q1yc (q1xd d) z) h fun y9 h=>?_
   refine q3yy hm hT hC (q1yg (q1xd d) y9) h fun y10 h=>?_
   refine q83 (v:=y10.2.2.2.1) (by kernel_rfl) h ?_ ?_
   ·
    intro h
    refine q3yy hm hT hC (q1yi (q1xd d) y10) h fun y11 h=>?_
    refine q3yy hm hT hC (q1ym (q1xd d) y11) h fun y12 h=>?_
    refine q83 (v:=y12.2.2.2.1) (by kernel_rfl) h ?_ ?_
    ·
     intro h
     refine q84 hm hT hC (q1yo (q1xd d) y12) h ?_
     intro y13 h
     refine q7o ?_
     exact hj2 _ h
    ·
     intro h
     refine q84 hm hT hC (q1yt (q1xd d) y12) h ?_
     intro y14 h
     refine q7o ?_
     exact hj2 _ h
   ·
    intro h
    refine q7v (q7o ?_)
    refine qcy (s:=⟨[(1,.int .u64 y10.1),(2,.ptr 0 0),(4,.ptr 1 0),(6,.ptr 2 0),(7,.int .u64 y10.2.1),(8,.int .i64 y10.2.2.1)],[.cells [.bool y10.2.2.2.2.1,.int .u64 y10.2.2.2.2.2.1,.int .u64 y10.2.2.2.2.2.2.1],.cells [.bool y10.2.2.2.2.2.2.2.1,.int .u64 y10.2.2.2.2.2.2.2.2.1,.int .u64 y10.2.2.2.2.2.2.2.2.2.1],.cells [.bool y10.2.2.2.2.2.2.2.2.2.2.1,.int .u64 y10.2.2.2.2.2.2.2.2.2.2.2.1,.int .u64 y10.2.2.2.2.2.2.2.2.2.2.2.2]]⟩) [33] (by kernel_rfl) ?_
    exact hj2 _ h
  intro hj3
  refine q3yy hm hT hC (q1y8 (q1xd d) y6) h fun y7 h=>?_
  refine q83 (v:=y7.2.2.2.2.1) (by kernel_rfl) h ?_ ?_
  ·
   intro h
   refine q84 hm hT hC (q1ya (q1xd d) y7) h ?_
   intro y8 h
   exact hj3 _ h
  ·
   intro h
   refine q7v ?_
   refine qcy (s:=⟨[(1,.int .u64 y7.1),(2,.ptr 0 0),(4,.ptr 1 0),(6,.ptr 2 0),(7,.int .u64 y7.2.1),(8,.int .i64 y7.2.2.1),(9,.int .u64 y7.2.2.2.1)],[.cells [.bool y7.2.2.2.2.2.1,.int .u64 y7.2.2.2.2.2.2.1,.int .u64 y7.2.2.2.2.2.2.2.1],.cells [.bool y7.2.2.2.2.2.2.2.2.1,.int .u64 y7.2.2.2.2.2.2.2.2.2.1,.int .u64 y7.2.2.2.2.2.2.2.2.2.2.1],.cells [.bool y7.2.2.2.2.2.2.2.2.2.2.2.1,.int .u64 y7.2.2.2.2.2.2.2.2.2.2.2.2.1,.int .u64 y7.2.2.2.2.2.2.2.2.2.2.2.2.2]]⟩) [20] (by kernel_rfl) ?_
   exact hj3 _ h
 ·
  intro h
  refine q7x (q7m (q7m (q7q (q7l ?_))))
  refine q3yy hm hT hC (q1yy (q1xd d) y4) h fun y15 h=>?_
  refine q7y ?_
  cases h
  exact (hend _ (by kernel_rfl)).2
abbrev q1z2:List Pk:=[.row Ru false,.row Ru false]
abbrev q1z3:Type:=Du×Du×Unit
abbrev q1z4:Type:=Bool×Int×Int
def q1z5 (r:q1z4):LV×List Ob:=(.agg [.bool r.1,.int .u64 r.2.1,.int .u64 r.2.2],[])
def q1z6 (F:q1z3→Option q1z4):Go.Tx.Spec:=⟨89,q1z2,q1z4,F,q1z5⟩
abbrev q1z7:Type:=Unit
def q1z8 (_d:Nat):q1z7:=()
def q1z9 (C:q1z7):List Go.Tx.Spec:=[]
abbrev q1za:Type:=Int×Int
def q1zb (v:q1za):St:=⟨[(0,.int .u64 v.1),(1,.int .u64 v.2)],[]⟩
abbrev q1zc:Type:=Int×Int×Bool×Int×Int
def q1zd (v:q1zc):St:=⟨[(0,.int .u64 v.1),(1,.int .u64 v.2.1),(4,.ptr 0 0)],[.cells [.bool v.2.2.1,.int .u64 v.2.2.2.1,.int .u64 v.2.2.2.2]]⟩
def q1ze (C:q1z7) (v:q1za):Dt q1zc:=(Dt.ret (v.1,v.2,false,(0:Int),(0:Int)))
abbrev q3zx {V Y:Type}:=@rg q1z7 V Y tysT (fun C=>(orc (q1z9 C))) 51
theorem q1zf C v:q3zx (regO (qcz f89) 0) false (an [0,1,4]) q1zb q1ze q1zd C v:=rgI (by kernel_rfl)
abbrev q1zg:Type:=Int×Int×Int×Int×Bool×Int×Int
def q1zh (v:q1zg):St:=⟨[(4,.ptr 0 0),(5,.int .u64 v.1),(6,.int .u64 v.2.1),(7,.int .u64 v.2.2.1),(8,.int .u64 v.2.2.2.1)],[.cells [.bool v.2.2.2.2.1,.int .u64 v.2.2.2.2.2.1,.int .u64 v.2.2.2.2.2.2]]⟩
def q1zi (C:q1z7) (v:q1zc):Dt q1zg:=(Dt.ite ((4294967296:Int) == (0:Int)) Dt.fail (Dt.ite ((4294967296:Int) == (0:Int)) Dt.fail (Dt.ite ((4294967296:Int) == (0:Int)) Dt.fail (Dt.ite ((4294967296:Int) == (0:Int)) Dt.fail (Dt.ret ((IntKind.wrap .u64 (Int.tdiv v.1 (4294967296:Int))),(Int.tmod v.1 (4294967296:Int)),(IntKind.wrap .u64 (Int.tdiv v.2.1 (4294967296:Int))),(Int.tmod v.2.1 (4294967296:Int)),v.2.2.1,v.2.2.2.1,v.2.2.2.2))))))
theorem q1zj C v:q3zx (regO (qcz f89) 1) false (an [4,5,6,7,8]) q1zd q1zi q1zh C v:=rgI (by kernel_rfl)
abbrev q1zk:Type:=Int×Int×Int×Int×Int×Bool×Int×Int
def q1zl (v:q1zk):St:=⟨[(4,.ptr 0 0),(5,.int .u64 v.1),(6,.int .u64 v.2.1),(7,.int .u64 v.2.2.1),(8,.int .u64 v.2.2.2.1),(9,.int .u64 v.2.2.2.2.1)],[.cells [.bool v.2.2.2.2.2.1,.int .u64 v.2.2.2.2.2.2.1,.int .u64 v.2.2.2.2.2.2.2]]⟩
def q1zm (C:q1z7) (v:q1zg):Dt q1zk:=(Dt.ret (v.1,v.2.1,v.2.2.1,v.2.2.2.1,(IntKind.wrap .u64 (v.2.1 * v.2.2.2.1)),v.2.2.2.2.1,v.2.2.2.2.2.1,v.2.2.2.2.2.2))
theorem q1zn C v:q3zx (regO (qcz f89) 2) false (an [4,5,6,7,8,9]) q1zh q1zm q1zl C v:=rgI (by kernel_rfl)
abbrev q1zo:Type:=Int×Int×Int×Int×Int×Bool×Int×Int
def q1zp (v:q1zo):St:=⟨[(4,.ptr 0 0),(5,.int .u64 v.1),(6,.int .u64 v.2.1),(7,.int .u64 v.2.2.1),(9,.int .u64 v.2.2.2.1),(10,.int .u64 v.2.2.2.2.1)],[.cells [.bool v.2.2.2.2.2.1,.int .u64 v.2.2.2.2.2.2.1,.int .u64 v.2.2.2.2.2.2.2]]⟩
def q1zq (C:q1z7) (v:q1zk):Dt q1zo:=(Dt.ite ((4294967296:Int) == (0:Int)) Dt.fail (Dt.ret (v.1,v.2.1,v.2.2.1,v.2.2.2.2.1,(IntKind.wrap .u64 ((IntKind.wrap .u64 (v.1 * v.2.2.2.1)) + (IntKind.wrap .u64 (Int.tdiv v.2.2.2.2.1 (4294967296:Int))))),v.2.2.2.2.2.1,v.2.2.2.2.2.2.1,v.2.2.2.2.2.2.2)))
theorem q1zr C v:q3zx (regO (qcz f89) 3) false (an [4,5,6,7,9,10]) q1zl q1zq q1zp C v:=rgI (by kernel_rfl)
abbrev q1zs:Type:=Int×Int×Int×Int×Int×Bool×Int×Int
def q1zt (v:q1zs):St:=⟨[(4,.ptr 0 0),(5,.int .u64 v.1),(7,.int .u64 v.2.1),(9,.int .u64 v.2.2.1),(10,.int .u64 v.2.2.2.1),(11,.int .u64 v.2.2.2.2.1)],[.cells [.bool v.2.2.2.2.2.1,.int .u64 v.2.2.2.2.2.2.1,.int .u64 v.2.2.2.2.2.2.2]]⟩
def q1zu (C:q1z7) (v:q1zo):Dt q1zs:=(Dt.ite ((4294967296:Int) == (0:Int)) Dt.fail (Dt.ret (v.1,v.2.2.1,v.2.2.2.1,v.2.2.2.2.1,(IntKind.wrap .u64 ((IntKind.wrap .u64 (v.2.1 * v.2.2.1)) + (Int.tmod v.2.2.2.2.1 (4294967296:Int)))),v.2.2.2.2.2.1,v.2.2.2.2.2.2.1,v.2.2.2.2.2.2.2)))
theorem q1zv C v:q3zx (regO (qcz f89) 4) false (an [4,5,7,9,10,11]) q1zp q1zu q1zt C v:=rgI (by kernel_rfl)
abbrev q1zw:Type:=Bool×Int×Int
def q1zx (v:q1zw):St:=⟨[(4,.ptr 0 0)],[.cells [.bool v.1,.int .u64 v.2.1,.int .u64 v.2.2]]⟩
def q1zy (C:q1z7) (v:q1zs):Dt q1zw:=(Dt.ite ((4294967296:Int) == (0:Int)) Dt.fail (Dt.ite ((4294967296:Int) == (0:Int)) Dt.fail (Dt.ite ((4294967296:Int) == (0:Int)) Dt.fail (Dt.ite ((4294967296:Int) == (0:Int)) Dt.fail (Dt.ret (false,(IntKind.wrap .u64 ((IntKind.wrap .u64 ((IntKind.wrap .u64 (v.1 * v.2.1)) + (IntKind.wrap .u64 (Int.tdiv v.2.2.2.1 (4294967296:Int))))) + (IntKind.wrap .u64 (Int.tdiv v.2.2.2.2.1 (4294967296:Int))))),(IntKind.wrap .u64 ((IntKind.wrap .u64 ((Int.tmod v.2.2.2.2.1 (4294967296:Int)) * (4294967296:Int))) + (Int.tmod v.2.2.1 (4294967296:Int))))))))))
theorem q1zz C v:q3zx (regO (qcz f89) 5) false [(4,.any)] q1zt q1zy q1zx C v:=rgI (by kernel_rfl)
def q200 (d:Nat) (x:q1z3):Option q1z4 :=
 (q1ze (q1z8 d) (x.1.1,x.2.1.1)).eval fun y0 =>
 (q1zi (q1z8 d) y0).eval fun y1 =>
 (q1zm (q1z8 d) y1).eval fun y2 =>
 (q1zq (q1z8 d) y2).eval fun y3 =>
 (q1zu (q1z8 d) y3).eval fun y4 =>
 (q1zy (q1z8 d) y4).eval fun y5 =>
 some y5
theorem q201 (d:Nat):COK prog (q1z6 (q200 d)):=by
 have hm:prog.follows .mixedOrders=true:=qju
 have hT:=tys
 have hC0:OrcOK prog (orc (q1z9 (q1z8 d))):=qct (by
  intro S hS
  simp only [q1z9,List.mem_cons,List.not_mem_nil,or_false] at hS
  all_goals first | cases hS | exact hS.elim)
 have hC:OrcOK prog (orc (q1z9 (q1z8 d))):=hC0
 refine q8f (c:=qcz f89) (fn:=f89) hT (by kernel_rfl) (by kernel_rfl) (by decide) fun x r h w0 φ0 Q hend=>?_
 replace h:q200 d x=some r:=h
 unfold q200 at h
 show Run prog w0 φ0 51 (qcz f89) ⟨[(0,.int .u64 x.1.1),(1,.int .u64 x.2.1.1)],[]⟩ Q
 refine q3yy hm hT hC (q1zf (q1z8 d) (x.1.1,x.2.1.1)) h fun y0 h=>?_
 refine q3yy hm hT hC (q1zj (q1z8 d) y0) h fun y1 h=>?_
 refine q3yy hm hT hC (q1zn (q1z8 d) y1) h fun y2 h=>?_
 refine q3yy hm hT hC (q1zr (q1z8 d) y2) h fun y3 h=>?_
 refine q3yy hm hT hC (q1zv (q1z8 d) y3) h fun y4 h=>?_
 refine q3yy hm hT hC (q1zz (q1z8 d) y4) h fun y5 h=>?_
 refine q7y ?_
 cases h
 exact (hend _ (by kernel_rfl)).2
abbrev q202:List Pk:=[.row Rb false,.row Rbuu true,.row Rbuu true]
abbrev q203:Type:=Db×Dbuu×Dbuu×Unit
abbrev q204:Type:=Int×Int×Int
def q205 (r:q204):LV×List Ob:=(.tup [.agg [.int .i64 r.1,.int .i64 r.2.1],.int .i64 r.2.2],[])
def q206 (F:q203→Option q204):Go.Tx.Spec:=⟨88,q202,q204,F,q205⟩
abbrev q207:Type:=Unit
def q208 (_d:Nat):q207:=()
def q209 (C:q207):List Go.Tx.Spec:=[]
abbrev q20a:Type:=Bool×Bool×Int×Int×Bool×Int×Int
def q20b (v:q20a):St:=⟨[(0,.bool v.1),(1,.agg [.bool v.2.1,.int .u64 v.2.2.1,.int .u64 v.2.2.2.1]),(2,.agg [.bool v.2.2.2.2.1,.int .u64 v.2.2.2.2.2.1,.int .u64 v.2.2.2.2.2.2])],[]⟩
abbrev q20c:Type:=Bool×Bool×Int×Int×Bool×Int×Int×Int×Int
def q20d (v:q20c):St:=⟨[(0,.bool v.1),(4,.ptr 0 0),(5,.ptr 1 0),(6,.ptr 2 0)],[.cells [.bool v.2.1,.int .u64 v.2.2.1,.int .u64 v.2.2.2.1],.cells [.bool v.2.2.2.2.1,.int .u64 v.2.2.2.2.2.1,.int .u64 v.2.2.2.2.2.2.1],.cells [.int .i64 v.2.2.2.2.2.2.2.1,.int .i64 v.2.2.2.2.2.2.2.2]]⟩
def q20e (C:q207) (v:q20a):Dt q20c:=(Dt.ret (v.1,v.2.1,v.2.2.1,v.2.2.2.1,v.2.2.2.2.1,v.2.2.2.2.2.1,v.2.2.2.2.2.2,(0:Int),(0:Int)))
abbrev q3zy {V Y:Type}:=@rg q207 V Y tysT (fun C=>(orc (q209 C))) 43
theorem q20f C v:q3zy (regO (qcz f88) 0) false (an [0,4,5,6]) q20b q20e q20d C v:=rgI (by kernel_rfl)
abbrev q20g:Type:=Bool×Bool×Bool×Int×Int×Bool×Int×Int×Int×Int
def q20h (v:q20g):St:=⟨[(0,.bool v.1),(4,.ptr 0 0),(5,.ptr 1 0),(6,.ptr 2 0),(25,.bool v.2.1)],[.cells [.bool v.2.2.1,.int .u64 v.2.2.2.1,.int .u64 v.2.2.2.2.1],.cells [.bool v.2.2.2.2.2.1,.int .u64 v.2.2.2.2.2.2.1,.int .u64 v.2.2.2.2.2.2.2.1],.cells [.int .i64 v.2.2.2.2.2.2.2.2.1,.int .i64 v.2.2.2.2.2.2.2.2.2]]⟩
def q20i (C:q207) (v:q20c):Dt q20g:=(Dt.ite (decide (v.2.2.1 > (0:Int))) (Dt.ret (v.1,true,v.2.1,v.2.2.1,v.2.2.2.1,v.2.2.2.2.1,v.2.2.2.2.2.1,v.2.2.2.2.2.2.1,v.2.2.2.2.2.2.2.1,v.2.2.2.2.2.2.2.2)) (Dt.ite (decide (v.2.2.2.1 > (9223372036854775807:Int))) (Dt.ret (v.1,true,v.2.1,v.2.2.1,v.2.2.2.1,v.2.2.2.2.1,v.2.2.2.2.2.1,v.2.2.2.2.2.2.1,v.2.2.2.2.2.2.2.1,v.2.2.2.2.2.2.2.2)) (Dt.ite (decide (v.2.2.2.2.2.1 > (0:Int))) (Dt.ret (v.1,true,v.2.1,v.2.2.1,v.2.2.2.1,v.2.2.2.2.1,v.2.2.2.2.2.1,v.2.2.2.2.2.2.1,v.2.2.2.2.2.2.2.1,v.2.2.2.2.2.2.2.2)) (Dt.ret (v.1,(decide (v.2.2.2.2.2.2.1 > (9223372036854775807:Int))),v.2.1,v.2.2.1,v.2.2.2.1,v.2.2.2.2.1,v.2.2.2.2.2.1,v.2.2.2.2.2.2.1,v.2.2.2.2.2.2.2.1,v.2.2.2.2.2.2.2.2)))))
theorem q20j C v:q3zy (regO (qcz f88) 1) false (an [0,4,5,6,25]) q20d q20i q20h C v:=rgI (by kernel_rfl)
abbrev q20k:Type:=Int×Int×Int
def q20l (v:q20k):St:=⟨[(6,.ptr 0 0),(7,.int .i64 v.1)],[.cells [.int .i64 v.2.1,.int .i64 v.2.2]]⟩
def q20m (C:q207) (v:q20g):Dt q20k:=(Dt.ret ((16:Int),(0:Int),(0:Int)))
theorem q20n C v:q3zy (regO (qcz f88) 2) false (an [6,7]) q20h q20m q20l C v:=rgI (by kernel_rfl)
abbrev q20o:Type:=Bool×Bool×Int×Int×Bool×Int×Int×Int×Int
def q20p (v:q20o):St:=⟨[(4,.ptr 0 0),(5,.ptr 1 0),(6,.ptr 2 0),(27,.bool v.1)],[.cells [.bool v.2.1,.int .u64 v.2.2.1,.int .u64 v.2.2.2.1],.cells [.bool v.2.2.2.2.1,.int .u64 v.2.2.2.2.2.1,.int .u64 v.2.2.2.2.2.2.1],.cells [.int .i64 v.2.2.2.2.2.2.2.1,.int .i64 v.2.2.2.2.2.2.2.2]]⟩
def q20q (C:q207) (v:q20g):Dt q20o:=(Dt.ret (v.1,v.2.2.1,v.2.2.2.1,v.2.2.2.2.1,v.2.2.2.2.2.1,v.2.2.2.2.2.2.1,v.2.2.2.2.2.2.2.1,v.2.2.2.2.2.2.2.2.1,v.2.2.2.2.2.2.2.2.2))
theorem q20r C v:q3zy (regO (qcz f88) 3) false (an [4,5,6,27]) q20h q20q q20p C v:=rgI (by kernel_rfl)
def q20s (C:q207) (v:q20o):Dt q20k:=(Dt.ret ((0:Int),(IntKind.wrap .i64 (0 - (IntKind.wrap .i64 v.2.2.2.1))),(IntKind.wrap .i64 v.2.2.2.2.2.2.1)))
theorem q20t C v:q3zy (regO (qcz f88) 4) false (an [6,7]) q20p q20s q20l C v:=rgI (by kernel_rfl)
def q20u (C:q207) (v:q20o):Dt q20k:=(Dt.ret ((0:Int),(IntKind.wrap .i64 v.2.2.2.1),(IntKind.wrap .i64 v.2.2.2.2.2.2.1)))
theorem q20v C v:q3zy (regO (qcz f88) 5) false (an [6,7]) q20p q20u q20l C v:=rgI (by kernel_rfl)
def q20w (d:Nat) (x:q203):Option q204 :=
 (q20e (q208 d) (x.1.1,x.2.1.1,x.2.1.2.1,x.2.1.2.2.1,x.2.2.1.1,x.2.2.1.2.1,x.2.2.1.2.2.1)).eval fun y0 =>
 (q20i (q208 d) y0).eval fun y1 =>
 bif y1.2.1 then ((q20m (q208 d) y1).eval fun y2 =>
 some (y2.2.1,y2.2.2,y2.1)) else ((q20q (q208 d) y1).eval fun y3 =>
 bif y3.1 then ((q20s (q208 d) y3).eval fun y4 =>
 some (y4.2.1,y4.2.2,y4.1)) else ((q20u (q208 d) y3).eval fun y5 =>
 some (y5.2.1,y5.2.2,y5.1)))
theorem q20x (d:Nat):COK prog (q206 (q20w d)):=by
 have hm:prog.follows .mixedOrders=true:=qju
 have hT:=tys
 have hC0:OrcOK prog (orc (q209 (q208 d))):=qct (by
  intro S hS
  simp only [q209,List.mem_cons,List.not_mem_nil,or_false] at hS
  all_goals first | cases hS | exact hS.elim)
 have hC:OrcOK prog (orc (q209 (q208 d))):=hC0
 refine q8f (c:=qcz f88) (fn:=f88) hT (by kernel_rfl) (by kernel_rfl) (by decide) fun x r h w0 φ0 Q hend=>?_
 replace h:q20w d x=some r:=h
 unfold q20w at h
 show Run prog w0 φ0 43 (qcz f88) ⟨[(0,.bool x.1.1),(1,.agg [.bool x.2.1.1,.int .u64 x.2.1.2.1,.int .u64 x.2.1.2.2.1]),(2,.agg [.bool x.2.2.1.1,.int .u64 x.2.2.1.2.1,.int .u64 x.2.2.1.2.2.1])],[]⟩ Q
 refine q3yy hm hT hC (q20f (q208 d) (x.1.1,x.2.1.1,x.2.1.2.1,x.2.1.2.2.1,x.2.2.1.1,x.2.2.1.2.1,x.2.2.1.2.2.1)) h fun y0 h=>?_
 refine q7z ?_
 refine q3yy hm hT hC (q20j (q208 d) y0) h fun y1 h=>?_
 refine q83 (v:=y1.2.1) (by kernel_rfl) h ?_ ?_
 ·
  intro h
  refine q3yy hm hT hC (q20n (q208 d) y1) h fun y2 h=>?_
  refine q7y (q7n ?_)
  cases h
  exact (hend _ (by kernel_rfl)).2
 ·
  intro h
  refine q7v (q7l (q7z ?_))
  refine q3yy hm hT hC (q20r (q208 d) y1) h fun y3 h=>?_
  refine q83 (v:=y3.1) (by kernel_rfl) h ?_ ?_
  ·
   intro h
   refine q3yy hm hT hC (q20t (q208 d) y3) h fun y4 h=>?_
   refine q7y (q7n ?_)
   cases h
   exact (hend _ (by kernel_rfl)).2
  ·
   intro h
   refine q7v (q7l ?_)
   refine q3yy hm hT hC (q20v (q208 d) y3) h fun y5 h=>?_
   refine q7y ?_
   cases h
   exact (hend _ (by kernel_rfl)).2
abbrev q20y:List Pk:=[.row Rii true,.row Rii true]
abbrev q20z:Type:=Dii×Dii×Unit
abbrev q210:Type:=Int×Int×Int
def q211 (r:q210):LV×List Ob:=(.tup [.agg [.int .i64 r.1,.int .i64 r.2.1],.int .i64 r.2.2],[])
def q212 (F:q20z→Option q210):Go.Tx.Spec:=⟨40,q20y,q210,F,q211⟩
abbrev q213:Type:=(q1rz→Option q1s0)×(q1sp→Option q1sq)×(q1vj→Option q1vk)×(qmq→Option qmr)×(q1x8→Option q1x9)×(q203→Option q204)×(q1z3→Option q1z4)×Unit
def q214 (d:Nat):q213:=(q1sm d,q1tb d,q1x5 d,qmv d,q1z0 d,q20w d,q200 d,())
def q215 (C:q213):List Go.Tx.Spec:=[q1s2 C.1,q1ss C.2.1,q1vm C.2.2.1,qmt C.2.2.2.1,q1xb C.2.2.2.2.1,q206 C.2.2.2.2.2.1,q1z6 C.2.2.2.2.2.2.1]
abbrev q216:Type:=Int×Int×Int×Int
def q217 (v:q216):St:=⟨[(0,.agg [.int .i64 v.1,.int .i64 v.2.1]),(1,.agg [.int .i64 v.2.2.1,.int .i64 v.2.2.2])],[]⟩
abbrev q218:Type:=Int×Int×Int×Int×Int×Int
def q219 (v:q218):St:=⟨[(2,.ptr 0 0),(3,.ptr 1 0),(4,.ptr 2 0)],[.cells [.int .i64 v.1,.int .i64 v.2.1],.cells [.int .i64 v.2.2.1,.int .i64 v.2.2.2.1],.cells [.int .i64 v.2.2.2.2.1,.int .i64 v.2.2.2.2.2]]⟩
def q21a (C:q213) (v:q216):Dt q218:=(Dt.ret (v.1,v.2.1,v.2.2.1,v.2.2.2,(0:Int),(0:Int)))
abbrev q3zz {V Y:Type}:=@rg q213 V Y tysT (fun C=>(orc (q215 C))) 78
theorem q21b C v:q3zz (regO (qcz f40) 0) false (an [2,3,4]) q217 q21a q219 C v:=rgI (by kernel_rfl)
abbrev q21c:Type:=Bool×Int×Int×Int×Int×Int×Int
def q21d (v:q21c):St:=⟨[(2,.ptr 0 0),(3,.ptr 1 0),(4,.ptr 2 0),(16,.bool v.1)],[.cells [.int .i64 v.2.1,.int .i64 v.2.2.1],.cells [.int .i64 v.2.2.2.1,.int .i64 v.2.2.2.2.1],.cells [.int .i64 v.2.2.2.2.2.1,.int .i64 v.2.2.2.2.2.2]]⟩
def q21e (C:q213) (v:q218):Dt q21c:=(Dt.bnd (C.1 ((v.1,v.2.1,()),(v.2.2.1,v.2.2.2.1,()),())) fun r1=>(Dt.ret ((r1 != (0:Int)),v.1,v.2.1,v.2.2.1,v.2.2.2.1,v.2.2.2.2.1,v.2.2.2.2.2)))
theorem q21f C v:q3zz (regO (qcz f40) 1) false (an [2,3,4,16]) q219 q21e q21d C v:=rgI (by kernel_rfl)
abbrev q21g:Type:=Int×Int×Int
def q21h (v:q21g):St:=⟨[(4,.ptr 0 0),(5,.int .i64 v.1)],[.cells [.int .i64 v.2.1,.int .i64 v.2.2]]⟩
def q21i (C:q213) (v:q21c):Dt q21g:=(Dt.bnd (C.1 ((v.2.1,v.2.2.1,()),(v.2.2.2.1,v.2.2.2.2.1,()),())) fun r1=>(Dt.ret (r1,(0:Int),(0:Int))))
theorem q21j C v:q3zz (regO (qcz f40) 2) false (an [4,5]) q21d q21i q21h C v:=rgI (by kernel_rfl)
abbrev q21k:Type:=Int×Int×Int×Int×Int×Int×Int
def q21l (v:q21k):St:=⟨[(2,.ptr 0 0),(3,.ptr 1 0),(4,.ptr 2 0),(6,.int .i64 v.1)],[.cells [.int .i64 v.2.1,.int .i64 v.2.2.1],.cells [.int .i64 v.2.2.2.1,.int .i64 v.2.2.2.2.1],.cells [.int .i64 v.2.2.2.2.2.1,.int .i64 v.2.2.2.2.2.2]]⟩
def q21m (C:q213) (v:q21c):Dt q21k:=(Dt.bnd (C.2.1 (((IntKind.wrap .u64 v.2.2.1),()),((IntKind.wrap .u64 v.2.2.2.2.1),()),())) fun r1=>(Dt.ret ((IntKind.wrap .i64 r1),v.2.1,v.2.2.1,v.2.2.2.1,v.2.2.2.2.1,v.2.2.2.2.2.1,v.2.2.2.2.2.2)))
theorem q21n C v:q3zz (regO (qcz f40) 3) false (an [2,3,4,6]) q21d q21m q21l C v:=rgI (by kernel_rfl)
abbrev q21o:Type:=Int×Int×Int×Int×Int×Int×Int×Bool×Int×Int
def q21p (v:q21o):St:=⟨[(2,.ptr 0 0),(3,.ptr 1 0),(4,.ptr 2 0),(6,.int .i64 v.1),(7,.ptr 3 0)],[.cells [.int .i64 v.2.1,.int .i64 v.2.2.1],.cells [.int .i64 v.2.2.2.1,.int .i64 v.2.2.2.2.1],.cells [.int .i64 v.2.2.2.2.2.1,.int .i64 v.2.2.2.2.2.2.1],.cells [.bool v.2.2.2.2.2.2.2.1,.int .u64 v.2.2.2.2.2.2.2.2.1,.int .u64 v.2.2.2.2.2.2.2.2.2]]⟩
def q21q (C:q213) (v:q21k):Dt q21o:=(Dt.ite (v.1 == (0:Int)) Dt.fail (Dt.bnd (C.2.2.2.1 ((v.2.1,()),((IntKind.wrap .i64 (Int.tdiv v.2.2.2.2.1 v.1)),()),())) fun r1=>(Dt.ite (v.1 == (0:Int)) Dt.fail (Dt.bnd (C.2.2.2.1 ((v.2.2.2.1,()),((IntKind.wrap .i64 (Int.tdiv v.2.2.1 v.1)),()),())) fun r2=>(Dt.bnd (C.2.2.1 ((r1.1,r1.2.1,r1.2.2,()),(r2.1,r2.2.1,r2.2.2,()),())) fun r3=>(Dt.ret (v.1,v.2.1,v.2.2.1,v.2.2.2.1,v.2.2.2.2.1,v.2.2.2.2.2.1,v.2.2.2.2.2.2,r3.1,r3.2.1,r3.2.2)))))))
theorem q21r C v:q3zz (regO (qcz f40) 4) true (an [2,3,4,6,7]) q21l q21q q21p C v:=rgI (by kernel_rfl)
abbrev q21s:Type:=Int×Int×Int×Int×Int×Int×Int×Int×Bool×Int×Int
def q21t (v:q21s):St:=⟨[(2,.ptr 0 0),(3,.ptr 1 0),(4,.ptr 2 0),(6,.int .i64 v.1),(7,.ptr 3 0),(9,.int .u64 v.2.1)],[.cells [.int .i64 v.2.2.1,.int .i64 v.2.2.2.1],.cells [.int .i64 v.2.2.2.2.1,.int .i64 v.2.2.2.2.2.1],.cells [.int .i64 v.2.2.2.2.2.2.1,.int .i64 v.2.2.2.2.2.2.2.1],.cells [.bool v.2.2.2.2.2.2.2.2.1,.int .u64 v.2.2.2.2.2.2.2.2.2.1,.int .u64 v.2.2.2.2.2.2.2.2.2.2]]⟩
def q21u (C:q213) (v:q21o):Dt q21s:=(Dt.bnd (C.2.2.2.2.1 ((v.2.2.2.2.2.2.2.1,v.2.2.2.2.2.2.2.2.1,v.2.2.2.2.2.2.2.2.2,()),((IntKind.wrap .u64 v.1),()),())) fun r1=>(Dt.ret (v.1,r1.2.2.2,v.2.1,v.2.2.1,v.2.2.2.1,v.2.2.2.2.1,v.2.2.2.2.2.1,v.2.2.2.2.2.2.1,v.2.2.2.2.2.2.2.1,v.2.2.2.2.2.2.2.2.1,v.2.2.2.2.2.2.2.2.2)))
theorem q21v C v:q3zz (regO (qcz f40) 5) false (an [2,3,4,6,7,9]) q21p q21u q21t C v:=rgI (by kernel_rfl)
abbrev q21w:Type:=Int×Int×Int×Int×Int×Int×Int×Int×Bool×Int×Int
def q21x (v:q21w):St:=⟨[(2,.ptr 0 0),(3,.ptr 1 0),(4,.ptr 2 0),(6,.int .i64 v.1),(7,.ptr 3 0),(10,.int .u64 v.2.1)],[.cells [.int .i64 v.2.2.1,.int .i64 v.2.2.2.1],.cells [.int .i64 v.2.2.2.2.1,.int .i64 v.2.2.2.2.2.1],.cells [.int .i64 v.2.2.2.2.2.2.1,.int .i64 v.2.2.2.2.2.2.2.1],.cells [.bool v.2.2.2.2.2.2.2.2.1,.int .u64 v.2.2.2.2.2.2.2.2.2.1,.int .u64 v.2.2.2.2.2.2.2.2.2.2]]⟩
def q21y (C:q213) (v:q21s):Dt q21w:=(Dt.bnd (C.2.1 (((IntKind.wrap .u64 v.1),()),(v.2.1,()),())) fun r1=>(Dt.ret (v.1,r1,v.2.2.1,v.2.2.2.1,v.2.2.2.2.1,v.2.2.2.2.2.1,v.2.2.2.2.2.2.1,v.2.2.2.2.2.2.2.1,v.2.2.2.2.2.2.2.2.1,v.2.2.2.2.2.2.2.2.2.1,v.2.2.2.2.2.2.2.2.2.2)))
theorem q21z C v:q3zz (regO (qcz f40) 6) false (an [2,3,4,6,7,10]) q21t q21y q21x C v:=rgI (by kernel_rfl)
abbrev q220:Type:=Int×Int×Int×Int×Int×Int×Int×Int×Bool×Int×Int×Bool×Int×Int
def q221 (v:q220):St:=⟨[(2,.ptr 0 0),(3,.ptr 1 0),(4,.ptr 2 0),(6,.int .i64 v.1),(7,.ptr 3 0),(10,.int .u64 v.2.1),(11,.ptr 4 0)],[.cells [.int .i64 v.2.2.1,.int .i64 v.2.2.2.1],.cells [.int .i64 v.2.2.2.2.1,.int .i64 v.2.2.2.2.2.1],.cells [.int .i64 v.2.2.2.2.2.2.1,.int .i64 v.2.2.2.2.2.2.2.1],.cells [.bool v.2.2.2.2.2.2.2.2.1,.int .u64 v.2.2.2.2.2.2.2.2.2.1,.int .u64 v.2.2.2.2.2.2.2.2.2.2.1],.cells [.bool v.2.2.2.2.2.2.2.2.2.2.2.1,.int .u64 v.2.2.2.2.2.2.2.2.2.2.2.2.1,.int .u64 v.2.2.2.2.2.2.2.2.2.2.2.2.2]]⟩
def q222 (C:q213) (v:q21w):Dt q220:=(Dt.bnd (C.2.2.2.2.1 ((v.2.2.2.2.2.2.2.2.1,v.2.2.2.2.2.2.2.2.2.1,v.2.2.2.2.2.2.2.2.2.2,()),(v.2.1,()),())) fun r1=>(Dt.ret (v.1,v.2.1,v.2.2.1,v.2.2.2.1,v.2.2.2.2.1,v.2.2.2.2.2.1,v.2.2.2.2.2.2.1,v.2.2.2.2.2.2.2.1,v.2.2.2.2.2.2.2.2.1,v.2.2.2.2.2.2.2.2.2.1,v.2.2.2.2.2.2.2.2.2.2,r1.1,r1.2.1,r1.2.2.1)))
theorem q223 C v:q3zz (regO (qcz f40) 7) false (an [2,3,4,6,7,10,11]) q21x q222 q221 C v:=rgI (by kernel_rfl)
def q224 (C:q213) (v:q220):Dt q21g:=(Dt.ite (v.1 == (0:Int)) Dt.fail (Dt.ite (v.2.1 == (0:Int)) Dt.fail (Dt.bnd (C.2.2.2.2.2.2.1 (((IntKind.wrap .u64 (IntKind.wrap .i64 (Int.tdiv v.2.2.2.1 v.1))),()),((IntKind.wrap .u64 (Int.tdiv (IntKind.wrap .u64 v.2.2.2.2.2.1) v.2.1)),()),())) fun r1=>(Dt.bnd (C.2.2.2.2.2.1 ((v.2.2.2.2.2.2.2.2.1,()),(v.2.2.2.2.2.2.2.2.2.2.2.1,v.2.2.2.2.2.2.2.2.2.2.2.2.1,v.2.2.2.2.2.2.2.2.2.2.2.2.2,()),(r1.1,r1.2.1,r1.2.2,()),())) fun r2=>(Dt.ret (r2.2.2,r2.1,r2.2.1))))))
theorem q225 C v:q3zz (regO (qcz f40) 8) true (an [4,5]) q221 q224 q21h C v:=rgI (by kernel_rfl)
def q226 (d:Nat) (x:q20z):Option q210 :=
 (q21a (q214 d) (x.1.1,x.1.2.1,x.2.1.1,x.2.1.2.1)).eval fun y0 =>
 (q21e (q214 d) y0).eval fun y1 =>
 bif y1.1 then ((q21i (q214 d) y1).eval fun y2 =>
 some (y2.2.1,y2.2.2,y2.1)) else ((q21m (q214 d) y1).eval fun y3 =>
 (q21q (q214 d) y3).eval fun y4 =>
 (q21u (q214 d) y4).eval fun y5 =>
 (q21y (q214 d) y5).eval fun y6 =>
 (q222 (q214 d) y6).eval fun y7 =>
 (q224 (q214 d) y7).eval fun y8 =>
 some (y8.2.1,y8.2.2,y8.1))
theorem q227 (d:Nat):COK prog (q212 (q226 d)):=by
 have hm:prog.follows .mixedOrders=true:=qju
 have hT:=tys
 have hC0:OrcOK prog (orc (q215 (q214 d))):=qct (by
  intro S hS
  simp only [q215,List.mem_cons,List.not_mem_nil,or_false] at hS
  rcases hS with rfl | rfl | rfl | rfl | rfl | rfl | rfl
  · exact q1sn d
  · exact q1tc d
  · exact q1x6 d
  · exact qmx d
  · exact q1z1 d
  · exact q20x d
  · exact q201 d)
 have hC:OrcOK prog (orc (q215 (q214 d))):=hC0
 refine q8f (c:=qcz f40) (fn:=f40) hT (by kernel_rfl) (by kernel_rfl) (by decide) fun x r h w0 φ0 Q hend=>?_
 replace h:q226 d x=some r:=h
 unfold q226 at h
 show Run prog w0 φ0 78 (qcz f40) ⟨[(0,.agg [.int .i64 x.1.1,.int .i64 x.1.2.1]),(1,.agg [.int .i64 x.2.1.1,.int .i64 x.2.1.2.1])],[]⟩ Q
 refine q3yy hm hT hC (q21b (q214 d) (x.1.1,x.1.2.1,x.2.1.1,x.2.1.2.1)) h fun y0 h=>?_
 refine q7z ?_
 refine q3yy hm hT hC (q21f (q214 d) y0) h fun y1 h=>?_
 refine q83 (v:=y1.1) (by kernel_rfl) h ?_ ?_
 ·
  intro h
  refine q3yy hm hT hC (q21j (q214 d) y1) h fun y2 h=>?_
  refine q7y (q7n ?_)
  cases h
  exact (hend _ (by kernel_rfl)).2
 ·
  intro h
  refine q7v (q7l ?_)
  refine q3yy hm hT hC (q21n (q214 d) y1) h fun y3 h=>?_
  refine q3yy hm hT hC (q21r (q214 d) y3) h fun y4 h=>?_
  refine q3yy hm hT hC (q21v (q214 d) y4) h fun y5 h=>?_
  refine q3yy hm hT hC (q21z (q214 d) y5) h fun y6 h=>?_
  refine q3yy hm hT hC (q223 (q214 d) y6) h fun y7 h=>?_
  refine q3yy hm hT hC (q225 (q214 d) y7) h fun y8 h=>?_
  refine q7y ?_
  cases h
  exact (hend _ (by kernel_rfl)).2
abbrev q228:List Pk:=[.row Rii true,.row Rii true]
abbrev q229:Type:=Dii×Dii×Unit
abbrev q22a:Type:=Int×Int×Int
def q22b (r:q22a):LV×List Ob:=(.tup [.agg [.int .i64 r.1,.int .i64 r.2.1],.int .i64 r.2.2],[])
def q22c (F:q229→Option q22a):Go.Tx.Spec:=⟨73,q228,q22a,F,q22b⟩
abbrev q22d:Type:=(q20z→Option q210)×(q1rz→Option q1s0)×Unit
def q22e (d:Nat):q22d:=(q226 d,q1sm d,())
def q22f (C:q22d):List Go.Tx.Spec:=[q212 C.1,q1s2 C.2.1]
abbrev q22g:Type:=Int×Int×Int×Int
def q22h (v:q22g):St:=⟨[(0,.agg [.int .i64 v.1,.int .i64 v.2.1]),(1,.agg [.int .i64 v.2.2.1,.int .i64 v.2.2.2])],[]⟩
abbrev q22i:Type:=Int×Int×Int×Int×Int×Int
def q22j (v:q22i):St:=⟨[(2,.ptr 0 0),(3,.ptr 1 0),(4,.ptr 2 0)],[.cells [.int .i64 v.1,.int .i64 v.2.1],.cells [.int .i64 v.2.2.1,.int .i64 v.2.2.2.1],.cells [.int .i64 v.2.2.2.2.1,.int .i64 v.2.2.2.2.2]]⟩
def q22k (C:q22d) (v:q22g):Dt q22i:=(Dt.ret (v.1,v.2.1,v.2.2.1,v.2.2.2,(0:Int),(0:Int)))
abbrev q400 {V Y:Type}:=@rg q22d V Y tysT (fun C=>(orc (q22f C))) 24
theorem q22l C v:q400 (regO (qcz f73) 0) false (an [2,3,4]) q22h q22k q22j C v:=rgI (by kernel_rfl)
abbrev q22m:Type:=Bool×Int×Int×Int×Int×Int×Int
def q22n (v:q22m):St:=⟨[(2,.ptr 0 0),(3,.ptr 1 0),(4,.ptr 2 0),(9,.bool v.1)],[.cells [.int .i64 v.2.1,.int .i64 v.2.2.1],.cells [.int .i64 v.2.2.2.1,.int .i64 v.2.2.2.2.1],.cells [.int .i64 v.2.2.2.2.2.1,.int .i64 v.2.2.2.2.2.2]]⟩
def q22o (C:q22d) (v:q22i):Dt q22m:=(Dt.bnd (C.2.1 ((v.1,v.2.1,()),(v.2.2.1,v.2.2.2.1,()),())) fun r1=>(Dt.ret ((r1 != (0:Int)),v.1,v.2.1,v.2.2.1,v.2.2.2.1,v.2.2.2.2.1,v.2.2.2.2.2)))
theorem q22p C v:q400 (regO (qcz f73) 1) false (an [2,3,4,9]) q22j q22o q22n C v:=rgI (by kernel_rfl)
abbrev q22q:Type:=Int×Int×Int
def q22r (v:q22q):St:=⟨[(4,.ptr 0 0),(5,.int .i64 v.1)],[.cells [.int .i64 v.2.1,.int .i64 v.2.2]]⟩
def q22s (C:q22d) (v:q22m):Dt q22q:=(Dt.bnd (C.2.1 ((v.2.1,v.2.2.1,()),(v.2.2.2.1,v.2.2.2.2.1,()),())) fun r1=>(Dt.ret (r1,(0:Int),(0:Int))))
theorem q22t C v:q400 (regO (qcz f73) 2) false (an [4,5]) q22n q22s q22r C v:=rgI (by kernel_rfl)
def q22u (C:q22d) (v:q22m):Dt q22q:=(Dt.bnd (C.1 ((v.2.1,v.2.2.1,()),((IntKind.wrap .i64 (0 - v.2.2.2.1)),v.2.2.2.2.1,()),())) fun r1=>(Dt.ret (r1.2.2,r1.1,r1.2.1)))
theorem q22v C v:q400 (regO (qcz f73) 3) false (an [4,5]) q22n q22u q22r C v:=rgI (by kernel_rfl)
def q22w (d:Nat) (x:q229):Option q22a :=
 (q22k (q22e d) (x.1.1,x.1.2.1,x.2.1.1,x.2.1.2.1)).eval fun y0 =>
 (q22o (q22e d) y0).eval fun y1 =>
 bif y1.1 then ((q22s (q22e d) y1).eval fun y2 =>
 some (y2.2.1,y2.2.2,y2.1)) else ((q22u (q22e d) y1).eval fun y3 =>
 some (y3.2.1,y3.2.2,y3.1))
theorem q22x (d:Nat):COK prog (q22c (q22w d)):=by
 have hm:prog.follows .mixedOrders=true:=qju
 have hT:=tys
 have hC0:OrcOK prog (orc (q22f (q22e d))):=qct (by
  intro S hS
  simp only [q22f,List.mem_cons,List.not_mem_nil,or_false] at hS
  rcases hS with rfl | rfl
  · exact q227 d
  · exact q1sn d)
 have hC:OrcOK prog (orc (q22f (q22e d))):=hC0
 refine q8f (c:=qcz f73) (fn:=f73) hT (by kernel_rfl) (by kernel_rfl) (by decide) fun x r h w0 φ0 Q hend=>?_
 replace h:q22w d x=some r:=h
 unfold q22w at h
 show Run prog w0 φ0 24 (qcz f73) ⟨[(0,.agg [.int .i64 x.1.1,.int .i64 x.1.2.1]),(1,.agg [.int .i64 x.2.1.1,.int .i64 x.2.1.2.1])],[]⟩ Q
 refine q3yy hm hT hC (q22l (q22e d) (x.1.1,x.1.2.1,x.2.1.1,x.2.1.2.1)) h fun y0 h=>?_
 refine q7z ?_
 refine q3yy hm hT hC (q22p (q22e d) y0) h fun y1 h=>?_
 refine q83 (v:=y1.1) (by kernel_rfl) h ?_ ?_
 ·
  intro h
  refine q3yy hm hT hC (q22t (q22e d) y1) h fun y2 h=>?_
  refine q7y (q7n ?_)
  cases h
  exact (hend _ (by kernel_rfl)).2
 ·
  intro h
  refine q7v (q7l ?_)
  refine q3yy hm hT hC (q22v (q22e d) y1) h fun y3 h=>?_
  refine q7y ?_
  cases h
  exact (hend _ (by kernel_rfl)).2
abbrev q22y:List Pk:=[.row Ri false]
abbrev q22z:Type:=Di×Unit
abbrev q230:Type:=Int
def q231 (r:q230):LV×List Ob:=(.int .u64 r,[])
def q232 (F:q22z→Option q230):Go.Tx.Spec:=⟨58,q22y,q230,F,q231⟩
abbrev q233:Type:=Unit
def q234 (_d:Nat):q233:=()
def q235 (C:q233):List Go.Tx.Spec:=[]
abbrev q236:Type:=Int
def q237 (v:q236):St:=⟨[(0,.int .i64 v)],[]⟩
def q238 (C:q233) (v:q236):Dt q236:=(Dt.ret v)
abbrev q401 {V Y:Type}:=@rg q233 V Y tysT (fun C=>(orc (q235 C))) 12
theorem q239 C v:q401 (regO (qcz f58) 0) false [(0,.any)] q237 q238 q237 C v:=rgI (by kernel_rfl)
abbrev q23a:Type:=Int×Bool
def q23b (v:q23a):St:=⟨[(0,.int .i64 v.1),(4,.bool v.2)],[]⟩
def q23c (C:q233) (v:q236):Dt q23a:=(Dt.ret (v,(decide (v < (0:Int)))))
theorem q23d C v:q401 (regO (qcz f58) 1) false (an [0,4]) q237 q23c q23b C v:=rgI (by kernel_rfl)
abbrev q23e:Type:=Int
def q23f (v:q23e):St:=⟨[(2,.int .u64 v)],[]⟩
def q23g (C:q233) (v:q23a):Dt q23e:=(Dt.ret (IntKind.wrap .u64 ((IntKind.wrap .u64 (IntKind.wrap .i64 (0 - (IntKind.wrap .i64 (v.1 + (1:Int)))))) + (1:Int))))
theorem q23h C v:q401 (regO (qcz f58) 2) false [(2,.any)] q23b q23g q23f C v:=rgI (by kernel_rfl)
def q23i (C:q233) (v:q23a):Dt q23e:=(Dt.ret (IntKind.wrap .u64 v.1))
theorem q23j C v:q401 (regO (qcz f58) 3) false [(2,.any)] q23b q23i q23f C v:=rgI (by kernel_rfl)
def q23k (d:Nat) (x:q22z):Option q230 :=
 (q238 (q234 d) x.1.1).eval fun y0 =>
 (q23c (q234 d) y0).eval fun y1 =>
 bif y1.2 then ((q23g (q234 d) y1).eval fun y2 =>
 some y2) else ((q23i (q234 d) y1).eval fun y3 =>
 some y3)
theorem q23l (d:Nat):COK prog (q232 (q23k d)):=by
 have hm:prog.follows .mixedOrders=true:=qju
 have hT:=tys
 have hC0:OrcOK prog (orc (q235 (q234 d))):=qct (by
  intro S hS
  simp only [q235,List.mem_cons,List.not_mem_nil,or_false] at hS
  all_goals first | cases hS | exact hS.elim)
 have hC:OrcOK prog (orc (q235 (q234 d))):=hC0
 refine q8f (c:=qcz f58) (fn:=f58) hT (by kernel_rfl) (by kernel_rfl) (by decide) fun x r h w0 φ0 Q hend=>?_
 replace h:q23k d x=some r:=h
 unfold q23k at h
 show Run prog w0 φ0 12 (qcz f58) ⟨[(0,.int .i64 x.1.1)],[]⟩ Q
 refine q3yy hm hT hC (q239 (q234 d) x.1.1) h fun y0 h=>?_
 refine q7z ?_
 refine q3yy hm hT hC (q23d (q234 d) y0) h fun y1 h=>?_
 refine q83 (v:=y1.2) (by kernel_rfl) h ?_ ?_
 ·
  intro h
  refine q3yy hm hT hC (q23h (q234 d) y1) h fun y2 h=>?_
  refine q7y (q7n ?_)
  cases h
  exact (hend _ (by kernel_rfl)).2
 ·
  intro h
  refine q7v (q7l ?_)
  refine q3yy hm hT hC (q23j (q234 d) y1) h fun y3 h=>?_
  refine q7y ?_
  cases h
  exact (hend _ (by kernel_rfl)).2
abbrev q23m:List Pk:=[.row Rii true,.row Rii true]
abbrev q23n:Type:=Dii×Dii×Unit
abbrev q23o:Type:=Int×Int×Int
def q23p (r:q23o):LV×List Ob:=(.tup [.agg [.int .i64 r.1,.int .i64 r.2.1],.int .i64 r.2.2],[])
def q23q (F:q23n→Option q23o):Go.Tx.Spec:=⟨41,q23m,q23o,F,q23p⟩
abbrev q23r:Type:=(q1rz→Option q1s0)×(q1sp→Option q1sq)×(q22z→Option q230)×(q203→Option q204)×(q1z3→Option q1z4)×Unit
def q23s (d:Nat):q23r:=(q1sm d,q1tb d,q23k d,q20w d,q200 d,())
def q23t (C:q23r):List Go.Tx.Spec:=[q1s2 C.1,q1ss C.2.1,q232 C.2.2.1,q206 C.2.2.2.1,q1z6 C.2.2.2.2.1]
abbrev q23u:Type:=Int×Int×Int×Int
def q23v (v:q23u):St:=⟨[(0,.agg [.int .i64 v.1,.int .i64 v.2.1]),(1,.agg [.int .i64 v.2.2.1,.int .i64 v.2.2.2])],[]⟩
abbrev q23w:Type:=Int×Int×Int×Int×Int×Int
def q23x (v:q23w):St:=⟨[(2,.ptr 0 0),(3,.ptr 1 0),(4,.ptr 2 0)],[.cells [.int .i64 v.1,.int .i64 v.2.1],.cells [.int .i64 v.2.2.1,.int .i64 v.2.2.2.1],.cells [.int .i64 v.2.2.2.2.1,.int .i64 v.2.2.2.2.2]]⟩
def q23y (C:q23r) (v:q23u):Dt q23w:=(Dt.ret (v.1,v.2.1,v.2.2.1,v.2.2.2,(0:Int),(0:Int)))
abbrev q402 {V Y:Type}:=@rg q23r V Y tysT (fun C=>(orc (q23t C))) 72
theorem q23z C v:q402 (regO (qcz f41) 0) false (an [2,3,4]) q23v q23y q23x C v:=rgI (by kernel_rfl)
abbrev q240:Type:=Bool×Int×Int×Int×Int×Int×Int
def q241 (v:q240):St:=⟨[(2,.ptr 0 0),(3,.ptr 1 0),(4,.ptr 2 0),(11,.bool v.1)],[.cells [.int .i64 v.2.1,.int .i64 v.2.2.1],.cells [.int .i64 v.2.2.2.1,.int .i64 v.2.2.2.2.1],.cells [.int .i64 v.2.2.2.2.2.1,.int .i64 v.2.2.2.2.2.2]]⟩
def q242 (C:q23r) (v:q23w):Dt q240:=(Dt.bnd (C.1 ((v.1,v.2.1,()),(v.2.2.1,v.2.2.2.1,()),())) fun r1=>(Dt.ret ((r1 != (0:Int)),v.1,v.2.1,v.2.2.1,v.2.2.2.1,v.2.2.2.2.1,v.2.2.2.2.2)))
theorem q243 C v:q402 (regO (qcz f41) 1) false (an [2,3,4,11]) q23x q242 q241 C v:=rgI (by kernel_rfl)
abbrev q244:Type:=Int×Int×Int
def q245 (v:q244):St:=⟨[(4,.ptr 0 0),(5,.int .i64 v.1)],[.cells [.int .i64 v.2.1,.int .i64 v.2.2]]⟩
def q246 (C:q23r) (v:q240):Dt q244:=(Dt.bnd (C.1 ((v.2.1,v.2.2.1,()),(v.2.2.2.1,v.2.2.2.2.1,()),())) fun r1=>(Dt.ret (r1,(0:Int),(0:Int))))
theorem q247 C v:q402 (regO (qcz f41) 2) false (an [4,5]) q241 q246 q245 C v:=rgI (by kernel_rfl)
abbrev q248:Type:=Int×Int×Int×Int×Int×Int×Int×Int
def q249 (v:q248):St:=⟨[(2,.ptr 0 0),(3,.ptr 1 0),(4,.ptr 2 0),(6,.int .u64 v.1),(7,.int .u64 v.2.1)],[.cells [.int .i64 v.2.2.1,.int .i64 v.2.2.2.1],.cells [.int .i64 v.2.2.2.2.1,.int .i64 v.2.2.2.2.2.1],.cells [.int .i64 v.2.2.2.2.2.2.1,.int .i64 v.2.2.2.2.2.2.2]]⟩
def q24a (C:q23r) (v:q240):Dt q248:=(Dt.bnd (C.2.2.1 ((v.2.1,()),())) fun r1=>(Dt.bnd (C.2.1 ((r1,()),((IntKind.wrap .u64 v.2.2.2.2.1),()),())) fun r2=>(Dt.bnd (C.2.2.1 ((v.2.2.2.1,()),())) fun r3=>(Dt.bnd (C.2.1 ((r3,()),((IntKind.wrap .u64 v.2.2.1),()),())) fun r4=>(Dt.ret (r2,r4,v.2.1,v.2.2.1,v.2.2.2.1,v.2.2.2.2.1,v.2.2.2.2.2.1,v.2.2.2.2.2.2))))))
theorem q24b C v:q402 (regO (qcz f41) 3) true (an [2,3,4,6,7]) q241 q24a q249 C v:=rgI (by kernel_rfl)
def q24c (C:q23r) (v:q248):Dt q244:=(Dt.ite (!((decide (v.2.2.1 < (0:Int))) == (decide (v.2.2.2.2.1 < (0:Int))))) (Dt.ite (v.2.2.1 != (0:Int)) (Dt.bnd (C.2.2.1 ((v.2.2.1,()),())) fun r1=>(Dt.ite (v.1 == (0:Int)) Dt.fail (Dt.bnd (C.2.2.1 ((v.2.2.2.2.1,()),())) fun r2=>(Dt.ite (v.2.1 == (0:Int)) Dt.fail (Dt.bnd (C.2.2.2.2.1 (((IntKind.wrap .u64 (Int.tdiv r1 v.1)),()),((IntKind.wrap .u64 (Int.tdiv r2 v.2.1)),()),())) fun r3=>(Dt.ite (v.2.1 == (0:Int)) Dt.fail (Dt.ite (v.1 == (0:Int)) Dt.fail (Dt.bnd (C.2.2.2.2.1 (((IntKind.wrap .u64 (Int.tdiv (IntKind.wrap .u64 v.2.2.2.1) v.2.1)),()),((IntKind.wrap .u64 (Int.tdiv (IntKind.wrap .u64 v.2.2.2.2.2.1) v.1)),()),())) fun r4=>(Dt.bnd (C.2.2.2.1 (((v.2.2.2.2.1 != (0:Int)),()),(r3.1,r3.2.1,r3.2.2,()),(r4.1,r4.2.1,r4.2.2,()),())) fun r5=>(Dt.ret (r5.2.2,r5.1,r5.2.1))))))))))) (Dt.bnd (C.2.2.1 ((v.2.2.1,()),())) fun r6=>(Dt.ite (v.1 == (0:Int)) Dt.fail (Dt.bnd (C.2.2.1 ((v.2.2.2.2.1,()),())) fun r7=>(Dt.ite (v.2.1 == (0:Int)) Dt.fail (Dt.bnd (C.2.2.2.2.1 (((IntKind.wrap .u64 (Int.tdiv r6 v.1)),()),((IntKind.wrap .u64 (Int.tdiv r7 v.2.1)),()),())) fun r8=>(Dt.ite (v.2.1 == (0:Int)) Dt.fail (Dt.ite (v.1 == (0:Int)) Dt.fail (Dt.bnd (C.2.2.2.2.1 (((IntKind.wrap .u64 (Int.tdiv (IntKind.wrap .u64 v.2.2.2.1) v.2.1)),()),((IntKind.wrap .u64 (Int.tdiv (IntKind.wrap .u64 v.2.2.2.2.2.1) v.1)),()),())) fun r9=>(Dt.bnd (C.2.2.2.1 ((false,()),(r8.1,r8.2.1,r8.2.2,()),(r9.1,r9.2.1,r9.2.2,()),())) fun r10=>(Dt.ret (r10.2.2,r10.1,r10.2.1)))))))))))) (Dt.bnd (C.2.2.1 ((v.2.2.1,()),())) fun r11=>(Dt.ite (v.1 == (0:Int)) Dt.fail (Dt.bnd (C.2.2.1 ((v.2.2.2.2.1,()),())) fun r12=>(Dt.ite (v.2.1 == (0:Int)) Dt.fail (Dt.bnd (C.2.2.2.2.1 (((IntKind.wrap .u64 (Int.tdiv r11 v.1)),()),((IntKind.wrap .u64 (Int.tdiv r12 v.2.1)),()),())) fun r13=>(Dt.ite (v.2.1 == (0:Int)) Dt.fail (Dt.ite (v.1 == (0:Int)) Dt.fail (Dt.bnd (C.2.2.2.2.1 (((IntKind.wrap .u64 (Int.tdiv (IntKind.wrap .u64 v.2.2.2.1) v.2.1)),()),((IntKind.wrap .u64 (Int.tdiv (IntKind.wrap .u64 v.2.2.2.2.2.1) v.1)),()),())) fun r14=>(Dt.bnd (C.2.2.2.1 ((false,()),(r13.1,r13.2.1,r13.2.2,()),(r14.1,r14.2.1,r14.2.2,()),())) fun r15=>(Dt.ret (r15.2.2,r15.1,r15.2.1))))))))))))
theorem q24d C v:q402 (regO (qcz f41) 4) true (an [4,5]) q249 q24c q245 C v:=rgI (by kernel_rfl)
def q24e (d:Nat) (x:q23n):Option q23o :=
 (q23y (q23s d) (x.1.1,x.1.2.1,x.2.1.1,x.2.1.2.1)).eval fun y0 =>
 (q242 (q23s d) y0).eval fun y1 =>
 bif y1.1 then ((q246 (q23s d) y1).eval fun y2 =>
 some (y2.2.1,y2.2.2,y2.1)) else ((q24a (q23s d) y1).eval fun y3 =>
 (q24c (q23s d) y3).eval fun y4 =>
 some (y4.2.1,y4.2.2,y4.1))
theorem q24f (d:Nat):COK prog (q23q (q24e d)):=by
 have hm:prog.follows .mixedOrders=true:=qju
 have hT:=tys
 have hC0:OrcOK prog (orc (q23t (q23s d))):=qct (by
  intro S hS
  simp only [q23t,List.mem_cons,List.not_mem_nil,or_false] at hS
  rcases hS with rfl | rfl | rfl | rfl | rfl
  · exact q1sn d
  · exact q1tc d
  · exact q23l d
  · exact q20x d
  · exact q201 d)
 have hC:OrcOK prog (orc (q23t (q23s d))):=hC0
 refine q8f (c:=qcz f41) (fn:=f41) hT (by kernel_rfl) (by kernel_rfl) (by decide) fun x r h w0 φ0 Q hend=>?_
 replace h:q24e d x=some r:=h
 unfold q24e at h
 show Run prog w0 φ0 72 (qcz f41) ⟨[(0,.agg [.int .i64 x.1.1,.int .i64 x.1.2.1]),(1,.agg [.int .i64 x.2.1.1,.int .i64 x.2.1.2.1])],[]⟩ Q
 refine q3yy hm hT hC (q23z (q23s d) (x.1.1,x.1.2.1,x.2.1.1,x.2.1.2.1)) h fun y0 h=>?_
 refine q7z ?_
 refine q3yy hm hT hC (q243 (q23s d) y0) h fun y1 h=>?_
 refine q83 (v:=y1.1) (by kernel_rfl) h ?_ ?_
 ·
  intro h
  refine q3yy hm hT hC (q247 (q23s d) y1) h fun y2 h=>?_
  refine q7y (q7n ?_)
  cases h
  exact (hend _ (by kernel_rfl)).2
 ·
  intro h
  refine q7v (q7l ?_)
  refine q3yy hm hT hC (q24b (q23s d) y1) h fun y3 h=>?_
  refine q3yy hm hT hC (q24d (q23s d) y3) h fun y4 h=>?_
  refine q7y ?_
  cases h
  exact (hend _ (by kernel_rfl)).2
abbrev q24g:List Pk:=[.row Rbuu true,.row Ri false]
abbrev q24h:Type:=Dbuu×Di×Unit
abbrev q24i:Type:=Int×Int×Int
def q24j (r:q24i):LV×List Ob:=(.tup [.agg [.int .i64 r.1,.int .i64 r.2.1],.int .i64 r.2.2],[])
def q24k (F:q24h→Option q24i):Go.Tx.Spec:=⟨136,q24g,q24i,F,q24j⟩
abbrev q24l:Type:=(q1sp→Option q1sq)×(q1x8→Option q1x9)×(q203→Option q204)×Unit
def q24m (d:Nat):q24l:=(q1tb d,q1z0 d,q20w d,())
def q24n (C:q24l):List Go.Tx.Spec:=[q1ss C.1,q1xb C.2.1,q206 C.2.2.1]
abbrev q24o:Type:=Bool×Int×Int×Int
def q24p (v:q24o):St:=⟨[(0,.agg [.bool v.1,.int .u64 v.2.1,.int .u64 v.2.2.1]),(1,.int .i64 v.2.2.2)],[]⟩
abbrev q24q:Type:=Int×Bool×Int×Int×Int×Int
def q24r (v:q24q):St:=⟨[(1,.int .i64 v.1),(2,.ptr 0 0),(4,.ptr 1 0)],[.cells [.bool v.2.1,.int .u64 v.2.2.1,.int .u64 v.2.2.2.1],.cells [.int .i64 v.2.2.2.2.1,.int .i64 v.2.2.2.2.2]]⟩
def q24s (C:q24l) (v:q24o):Dt q24q:=(Dt.ret (v.2.2.2,v.1,v.2.1,v.2.2.1,(0:Int),(0:Int)))
abbrev q403 {V Y:Type}:=@rg q24l V Y tysT (fun C=>(orc (q24n C))) 39
theorem q24t C v:q403 (regO (qcz f136) 0) false (an [1,2,4]) q24p q24s q24r C v:=rgI (by kernel_rfl)
abbrev q24u:Type:=Int×Int×Bool×Int×Int×Int×Int
def q24v (v:q24u):St:=⟨[(1,.int .i64 v.1),(2,.ptr 0 0),(4,.ptr 1 0),(7,.int .u64 v.2.1)],[.cells [.bool v.2.2.1,.int .u64 v.2.2.2.1,.int .u64 v.2.2.2.2.1],.cells [.int .i64 v.2.2.2.2.2.1,.int .i64 v.2.2.2.2.2.2]]⟩
def q24w (C:q24l) (v:q24q):Dt q24u:=(Dt.bnd (C.2.1 ((v.2.1,v.2.2.1,v.2.2.2.1,()),((IntKind.wrap .u64 v.1),()),())) fun r1=>(Dt.ret (v.1,r1.2.2.2,v.2.1,v.2.2.1,v.2.2.2.1,v.2.2.2.2.1,v.2.2.2.2.2)))
theorem q24x C v:q403 (regO (qcz f136) 1) false (an [1,2,4,7]) q24r q24w q24v C v:=rgI (by kernel_rfl)
abbrev q24y:Type:=Int×Int×Bool×Int×Int×Int×Int
def q24z (v:q24y):St:=⟨[(1,.int .i64 v.1),(2,.ptr 0 0),(4,.ptr 1 0),(8,.int .u64 v.2.1)],[.cells [.bool v.2.2.1,.int .u64 v.2.2.2.1,.int .u64 v.2.2.2.2.1],.cells [.int .i64 v.2.2.2.2.2.1,.int .i64 v.2.2.2.2.2.2]]⟩
def q250 (C:q24l) (v:q24u):Dt q24y:=(Dt.bnd (C.1 (((IntKind.wrap .u64 v.1),()),(v.2.1,()),())) fun r1=>(Dt.ret (v.1,r1,v.2.2.1,v.2.2.2.1,v.2.2.2.2.1,v.2.2.2.2.2.1,v.2.2.2.2.2.2)))
theorem q251 C v:q403 (regO (qcz f136) 2) false (an [1,2,4,8]) q24v q250 q24z C v:=rgI (by kernel_rfl)
abbrev q252:Type:=Int×Int×Bool×Int×Int×Int×Int×Bool×Int×Int
def q253 (v:q252):St:=⟨[(1,.int .i64 v.1),(2,.ptr 0 0),(4,.ptr 1 0),(8,.int .u64 v.2.1),(9,.ptr 2 0)],[.cells [.bool v.2.2.1,.int .u64 v.2.2.2.1,.int .u64 v.2.2.2.2.1],.cells [.int .i64 v.2.2.2.2.2.1,.int .i64 v.2.2.2.2.2.2.1],.cells [.bool v.2.2.2.2.2.2.2.1,.int .u64 v.2.2.2.2.2.2.2.2.1,.int .u64 v.2.2.2.2.2.2.2.2.2]]⟩
def q254 (C:q24l) (v:q24y):Dt q252:=(Dt.bnd (C.2.1 ((v.2.2.1,v.2.2.2.1,v.2.2.2.2.1,()),(v.2.1,()),())) fun r1=>(Dt.ret (v.1,v.2.1,v.2.2.1,v.2.2.2.1,v.2.2.2.2.1,v.2.2.2.2.2.1,v.2.2.2.2.2.2,r1.1,r1.2.1,r1.2.2.1)))
theorem q255 C v:q403 (regO (qcz f136) 3) false (an [1,2,4,8,9]) q24z q254 q253 C v:=rgI (by kernel_rfl)
abbrev q256:Type:=Int×Int×Int
def q257 (v:q256):St:=⟨[(4,.ptr 0 0),(5,.int .i64 v.1)],[.cells [.int .i64 v.2.1,.int .i64 v.2.2]]⟩
def q258 (C:q24l) (v:q252):Dt q256:=(Dt.ite (v.2.1 == (0:Int)) Dt.fail (Dt.bnd (C.2.2.1 ((v.2.2.1,()),(v.2.2.2.2.2.2.2.1,v.2.2.2.2.2.2.2.2.1,v.2.2.2.2.2.2.2.2.2,()),(false,(0:Int),(IntKind.wrap .u64 (Int.tdiv (IntKind.wrap .u64 v.1) v.2.1)),()),())) fun r1=>(Dt.ret (r1.2.2,r1.1,r1.2.1))))
theorem q259 C v:q403 (regO (qcz f136) 4) true (an [4,5]) q253 q258 q257 C v:=rgI (by kernel_rfl)
def q25a (d:Nat) (x:q24h):Option q24i :=
 (q24s (q24m d) (x.1.1,x.1.2.1,x.1.2.2.1,x.2.1.1)).eval fun y0 =>
 (q24w (q24m d) y0).eval fun y1 =>
 (q250 (q24m d) y1).eval fun y2 =>
 (q254 (q24m d) y2).eval fun y3 =>
 (q258 (q24m d) y3).eval fun y4 =>
 some (y4.2.1,y4.2.2,y4.1)
theorem q25b (d:Nat):COK prog (q24k (q25a d)):=by
 have hm:prog.follows .mixedOrders=true:=qju
 have hT:=tys
 have hC0:OrcOK prog (orc (q24n (q24m d))):=qct (by
  intro S hS
  simp only [q24n,List.mem_cons,List.not_mem_nil,or_false] at hS
  rcases hS with rfl | rfl | rfl
  · exact q1tc d
  · exact q1z1 d
  · exact q20x d)
 have hC:OrcOK prog (orc (q24n (q24m d))):=hC0
 refine q8f (c:=qcz f136) (fn:=f136) hT (by kernel_rfl) (by kernel_rfl) (by decide) fun x r h w0 φ0 Q hend=>?_
 replace h:q25a d x=some r:=h
 unfold q25a at h
 show Run prog w0 φ0 39 (qcz f136) ⟨[(0,.agg [.bool x.1.1,.int .u64 x.1.2.1,.int .u64 x.1.2.2.1]),(1,.int .i64 x.2.1.1)],[]⟩ Q
 refine q3yy hm hT hC (q24t (q24m d) (x.1.1,x.1.2.1,x.1.2.2.1,x.2.1.1)) h fun y0 h=>?_
 refine q3yy hm hT hC (q24x (q24m d) y0) h fun y1 h=>?_
 refine q3yy hm hT hC (q251 (q24m d) y1) h fun y2 h=>?_
 refine q3yy hm hT hC (q255 (q24m d) y2) h fun y3 h=>?_
 refine q3yy hm hT hC (q259 (q24m d) y3) h fun y4 h=>?_
 refine q7y ?_
 cases h
 exact (hend _ (by kernel_rfl)).2
abbrev q25c:List Pk:=[.row Riii true,.row Rii true]
abbrev q25d:Type:=Diii×Dii×Unit
abbrev q25e:Type:=Int×Int×Int
def q25f (r:q25e):LV×List Ob:=(.tup [.agg [.int .i64 r.1,.int .i64 r.2.1],.int .i64 r.2.2],[])
def q25g (F:q25d→Option q25e):Go.Tx.Spec:=⟨92,q25c,q25e,F,q25f⟩
abbrev q25h:Type:=(qn8→Option qn9)×(q20z→Option q210)×(q23n→Option q23o)×(q1vj→Option q1vk)×(qmq→Option qmr)×(qo8→Option qo9)×(q24h→Option q24i)×Unit
def q25i (d:Nat):q25h:=(qnd d,q226 d,q24e d,q1x5 d,qmv d,qod d,q25a d,())
def q25j (C:q25h):List Go.Tx.Spec:=[qnb C.1,q212 C.2.1,q23q C.2.2.1,q1vm C.2.2.2.1,qmt C.2.2.2.2.1,qob C.2.2.2.2.2.1,q24k C.2.2.2.2.2.2.1]
abbrev q25k:Type:=Int×Int×Int×Int×Int
def q25l (v:q25k):St:=⟨[(0,.agg [.int .i64 v.1,.int .i64 v.2.1,.int .i64 v.2.2.1]),(1,.agg [.int .i64 v.2.2.2.1,.int .i64 v.2.2.2.2])],[]⟩
abbrev q25m:Type:=Int×Int×Int×Int×Int×Int×Int
def q25n (v:q25m):St:=⟨[(2,.ptr 0 0),(3,.ptr 1 0),(4,.ptr 2 0)],[.cells [.int .i64 v.1,.int .i64 v.2.1,.int .i64 v.2.2.1],.cells [.int .i64 v.2.2.2.1,.int .i64 v.2.2.2.2.1],.cells [.int .i64 v.2.2.2.2.2.1,.int .i64 v.2.2.2.2.2.2]]⟩
def q25o (C:q25h) (v:q25k):Dt q25m:=(Dt.ret (v.1,v.2.1,v.2.2.1,v.2.2.2.1,v.2.2.2.2,(0:Int),(0:Int)))
abbrev q404 {V Y:Type}:=@rg q25h V Y tysT (fun C=>(orc (q25j C))) 52
theorem q25p C v:q404 (regO (qcz f92) 0) false (an [2,3,4]) q25l q25o q25n C v:=rgI (by kernel_rfl)
abbrev q25q:Type:=Bool×Int×Int×Int×Int×Int×Int×Int
def q25r (v:q25q):St:=⟨[(2,.ptr 0 0),(3,.ptr 1 0),(4,.ptr 2 0),(16,.bool v.1)],[.cells [.int .i64 v.2.1,.int .i64 v.2.2.1,.int .i64 v.2.2.2.1],.cells [.int .i64 v.2.2.2.2.1,.int .i64 v.2.2.2.2.2.1],.cells [.int .i64 v.2.2.2.2.2.2.1,.int .i64 v.2.2.2.2.2.2.2]]⟩
def q25s (C:q25h) (v:q25m):Dt q25q:=(Dt.bnd (C.2.2.2.2.2.1 ((v.1,v.2.1,v.2.2.1,()),())) fun r1=>(Dt.ite (r1 != (0:Int)) (Dt.ret (true,v.1,v.2.1,v.2.2.1,v.2.2.2.1,v.2.2.2.2.1,v.2.2.2.2.2.1,v.2.2.2.2.2.2)) (Dt.bnd (C.1 ((v.2.2.2.1,v.2.2.2.2.1,()),())) fun r2=>(Dt.ret ((r2 != (0:Int)),v.1,v.2.1,v.2.2.1,v.2.2.2.1,v.2.2.2.2.1,v.2.2.2.2.2.1,v.2.2.2.2.2.2)))))
theorem q25t C v:q404 (regO (qcz f92) 1) false (an [2,3,4,16]) q25n q25s q25r C v:=rgI (by kernel_rfl)
abbrev q25u:Type:=Int×Int×Int
def q25v (v:q25u):St:=⟨[(4,.ptr 0 0),(5,.int .i64 v.1)],[.cells [.int .i64 v.2.1,.int .i64 v.2.2]]⟩
def q25w (C:q25h) (v:q25q):Dt q25u:=(Dt.ret ((8:Int),(0:Int),(0:Int)))
theorem q25x C v:q404 (regO (qcz f92) 2) false (an [4,5]) q25r q25w q25v C v:=rgI (by kernel_rfl)
abbrev q25y:Type:=Int×Int×Int×Int×Int×Int×Int×Int×Int×Int
def q25z (v:q25y):St:=⟨[(2,.ptr 0 0),(3,.ptr 1 0),(4,.ptr 2 0),(6,.ptr 3 0),(7,.int .i64 v.1)],[.cells [.int .i64 v.2.1,.int .i64 v.2.2.1,.int .i64 v.2.2.2.1],.cells [.int .i64 v.2.2.2.2.1,.int .i64 v.2.2.2.2.2.1],.cells [.int .i64 v.2.2.2.2.2.2.1,.int .i64 v.2.2.2.2.2.2.2.1],.cells [.int .i64 v.2.2.2.2.2.2.2.2.1,.int .i64 v.2.2.2.2.2.2.2.2.2]]⟩
def q260 (C:q25h) (v:q25q):Dt q25y:=(Dt.bnd (C.2.2.1 ((v.2.2.2.1,(1:Int),()),(v.2.2.2.2.1,v.2.2.2.2.2.1,()),())) fun r1=>(Dt.ret (r1.2.2,v.2.1,v.2.2.1,v.2.2.2.1,v.2.2.2.2.1,v.2.2.2.2.2.1,v.2.2.2.2.2.2.1,v.2.2.2.2.2.2.2,r1.1,r1.2.1)))
theorem q261 C v:q404 (regO (qcz f92) 3) false (an [2,3,4,6,7]) q25r q260 q25z C v:=rgI (by kernel_rfl)
abbrev q262:Type:=Bool×Int×Int×Int×Int×Int×Int×Int×Int×Int
def q263 (v:q262):St:=⟨[(2,.ptr 0 0),(3,.ptr 1 0),(4,.ptr 2 0),(6,.ptr 3 0),(27,.bool v.1)],[.cells [.int .i64 v.2.1,.int .i64 v.2.2.1,.int .i64 v.2.2.2.1],.cells [.int .i64 v.2.2.2.2.1,.int .i64 v.2.2.2.2.2.1],.cells [.int .i64 v.2.2.2.2.2.2.1,.int .i64 v.2.2.2.2.2.2.2.1],.cells [.int .i64 v.2.2.2.2.2.2.2.2.1,.int .i64 v.2.2.2.2.2.2.2.2.2]]⟩
def q264 (C:q25h) (v:q25y):Dt q262:=(Dt.ret ((v.1 == (0:Int)),v.2.1,v.2.2.1,v.2.2.2.1,v.2.2.2.2.1,v.2.2.2.2.2.1,v.2.2.2.2.2.2.1,v.2.2.2.2.2.2.2.1,v.2.2.2.2.2.2.2.2.1,v.2.2.2.2.2.2.2.2.2))
theorem q265 C v:q404 (regO (qcz f92) 4) false (an [2,3,4,6,27]) q25z q264 q263 C v:=rgI (by kernel_rfl)
def q266 (C:q25h) (v:q262):Dt q25u:=(Dt.bnd (C.2.1 ((v.2.2.1,(1:Int),()),(v.2.2.2.2.2.2.2.2.1,v.2.2.2.2.2.2.2.2.2,()),())) fun r1=>(Dt.ret (r1.2.2,r1.1,r1.2.1)))
theorem q267 C v:q404 (regO (qcz f92) 5) false (an [4,5]) q263 q266 q25v C v:=rgI (by kernel_rfl)
abbrev q268:Type:=Int×Int×Int×Int×Bool×Int×Int
def q269 (v:q268):St:=⟨[(3,.ptr 0 0),(4,.ptr 1 0),(8,.ptr 2 0)],[.cells [.int .i64 v.1,.int .i64 v.2.1],.cells [.int .i64 v.2.2.1,.int .i64 v.2.2.2.1],.cells [.bool v.2.2.2.2.1,.int .u64 v.2.2.2.2.2.1,.int .u64 v.2.2.2.2.2.2]]⟩
def q26a (C:q25h) (v:q262):Dt q268:=(Dt.bnd (C.2.2.2.2.1 ((v.2.2.1,()),(v.2.2.2.2.2.1,()),())) fun r1=>(Dt.bnd (C.2.2.2.2.1 ((v.2.2.2.1,()),(v.2.2.2.2.1,()),())) fun r2=>(Dt.bnd (C.2.2.2.1 ((r1.1,r1.2.1,r1.2.2,()),(r2.1,r2.2.1,r2.2.2,()),())) fun r3=>(Dt.ret (v.2.2.2.2.1,v.2.2.2.2.2.1,v.2.2.2.2.2.2.1,v.2.2.2.2.2.2.2.1,r3.1,r3.2.1,r3.2.2)))))
theorem q26b C v:q404 (regO (qcz f92) 6) true (an [3,4,8]) q263 q26a q269 C v:=rgI (by kernel_rfl)
def q26c (C:q25h) (v:q268):Dt q25u:=(Dt.bnd (C.2.2.2.2.2.2.1 ((v.2.2.2.2.1,v.2.2.2.2.2.1,v.2.2.2.2.2.2,()),(v.2.1,()),())) fun r1=>(Dt.ret (r1.2.2,r1.1,r1.2.1)))
theorem q26d C v:q404 (regO (qcz f92) 7) false (an [4,5]) q269 q26c q25v C v:=rgI (by kernel_rfl)
def q26e (d:Nat) (x:q25d):Option q25e :=
 (q25o (q25i d) (x.1.1,x.1.2.1,x.1.2.2.1,x.2.1.1,x.2.1.2.1)).eval fun y0 =>
 (q25s (q25i d) y0).eval fun y1 =>
 bif y1.1 then ((q25w (q25i d) y1).eval fun y2 =>
 some (y2.2.1,y2.2.2,y2.1)) else ((q260 (q25i d) y1).eval fun y3 =>
 (q264 (q25i d) y3).eval fun y4 =>
 bif y4.1 then ((q266 (q25i d) y4).eval fun y5 =>
 some (y5.2.1,y5.2.2,y5.1)) else ((q26a (q25i d) y4).eval fun y6 =>
 (q26c (q25i d) y6).eval fun y7 =>
 some (y7.2.1,y7.2.2,y7.1)))
theorem q26f (d:Nat):COK prog (q25g (q26e d)):=by
 have hm:prog.follows .mixedOrders=true:=qju
 have hT:=tys
 have hC0:OrcOK prog (orc (q25j (q25i d))):=qct (by
  intro S hS
  simp only [q25j,List.mem_cons,List.not_mem_nil,or_false] at hS
  rcases hS with rfl | rfl | rfl | rfl | rfl | rfl | rfl
  · exact qnf d
  · exact q227 d
  · exact q24f d
  · exact q1x6 d
  · exact qmx d
  · exact qof d
  · exact q25b d)
 have hC:OrcOK prog (orc (q25j (q25i d))):=hC0
 refine q8f (c:=qcz f92) (fn:=f92) hT (by kernel_rfl) (by kernel_rfl) (by decide) fun x r h w0 φ0 Q hend=>?_
 replace h:q26e d x=some r:=h
 unfold q26e at h
 show Run prog w0 φ0 52 (qcz f92) ⟨[(0,.agg [.int .i64 x.1.1,.int .i64 x.1.2.1,.int .i64 x.1.2.2.1]),(1,.agg [.int .i64 x.2.1.1,.int .i64 x.2.1.2.1])],[]⟩ Q
 refine q3yy hm hT hC (q25p (q25i d) (x.1.1,x.1.2.1,x.1.2.2.1,x.2.1.1,x.2.1.2.1)) h fun y0 h=>?_
 refine q7z ?_
 refine q3yy hm hT hC (q25t (q25i d) y0) h fun y1 h=>?_
 refine q83 (v:=y1.1) (by kernel_rfl) h ?_ ?_
 ·
  intro h
  refine q3yy hm hT hC (q25x (q25i d) y1) h fun y2 h=>?_
  refine q7y (q7n ?_)
  cases h
  exact (hend _ (by kernel_rfl)).2
 ·
  intro h
  refine q7v (q7l ?_)
  refine q3yy hm hT hC (q261 (q25i d) y1) h fun y3 h=>?_
  refine q7z ?_
  refine q3yy hm hT hC (q265 (q25i d) y3) h fun y4 h=>?_
  refine q83 (v:=y4.1) (by kernel_rfl) h ?_ ?_
  ·
   intro h
   refine q3yy hm hT hC (q267 (q25i d) y4) h fun y5 h=>?_
   refine q7y (q7n ?_)
   cases h
   exact (hend _ (by kernel_rfl)).2
  ·
   intro h
   refine q7v (q7l ?_)
   refine q3yy hm hT hC (q26b (q25i d) y4) h fun y6 h=>?_
   refine q3yy hm hT hC (q26d (q25i d) y6) h fun y7 h=>?_
   refine q7y ?_
   cases h
   exact (hend _ (by kernel_rfl)).2
end Go.Proofs.YtpfhgnccpiildaaGreat
