/- Walks of the references; the orders agree; examples. -/
import Derived.Shelf.Spec.BitsCarry
import Derived.Test.YtoakhncbmpdacaaGg
set_option linter.unusedSimpArgs false
set_option linter.unusedVariables false
namespace Go.Proofs.Ytoakhncbmpdacaa
open Go Go.Tx Go.Proofs.Try
set_option maxRecDepth 100000
set_option maxHeartbeats 0
abbrev q2kg:List Pk:=[.row qkv true,.row qkv true,.row qks true,.row Rii true]
abbrev q2kh:Type:=qkw×qkw×qkt×Dii×Unit
abbrev q2ki:Type:=Int×List Diii×Int
def q2kj (r:q2ki):LV×List Ob:=(.tup [.agg [.int .i64 r.1,.rs 0],.int .i64 r.2.2],[.rows Riii r.2.1])
def q2kk (F:q2kh→Option q2ki):Go.Tx.Spec:=⟨30,q2kg,q2ki,F,q2kj⟩
abbrev q2kl:Type:=(qwp→Option qwq)×(q128→Option q129)×(qpt→Option qpu)×(q2an→Option q2ao)×(q2cc→Option q2cd)×Unit
def q2km (d:Nat):q2kl:=(qyy d,q12z d,qpy d,q2b4 d,q2e2 d,())
def q2kn (C:q2kl):List Go.Tx.Spec:=[qws C.1,q12b C.2.1,qpw C.2.2.1,q2aq C.2.2.2.1,q2cf C.2.2.2.2.1]
abbrev q2ko:Type:=Int×List Diii×Int×List Diii×List Diii×Int×Int
def q2kp (v:q2ko):St:=⟨[(0,.agg [i6 v.1,.fz Riii v.2.1]),(1,.agg [i6 v.2.2.1,.fz Riii v.2.2.2.1]),(2,.agg [.fz Riii v.2.2.2.2.1]),(3,.agg [i6 v.2.2.2.2.2.1,i6 v.2.2.2.2.2.2])],[]⟩
abbrev q2kq:Type:=Int×List Diii×Int×List Diii×List Diii×Int×Int×Int×List Diii
def q2kr (v:q2kq):St:=⟨[(4,.ptr 0 0),(5,.ptr 1 0),(6,.ptr 2 0),(7,.ptr 3 0),(8,.ptr 4 0)],[.cells [i6 v.1,.fz Riii v.2.1],.cells [i6 v.2.2.1,.fz Riii v.2.2.2.1],.cells [.fz Riii v.2.2.2.2.1],.cells [i6 v.2.2.2.2.2.1,i6 v.2.2.2.2.2.2.1],.cells [i6 v.2.2.2.2.2.2.2.1,.rs 5],.rows Riii v.2.2.2.2.2.2.2.2]⟩
def q2ks (C:q2kl) (v:q2ko):Dt q2kq:=(Dt.ret (v.1,v.2.1,v.2.2.1,v.2.2.2.1,v.2.2.2.2.1,v.2.2.2.2.2.1,v.2.2.2.2.2.2,(0:Int),([]:List Diii)))
abbrev q35i {V Y:Type}:=@rg q2kl V Y tysT (fun C=>(orc (q2kn C))) 232
theorem q2kt C v:q35i (regO (qea f30) 0) false [(4,(.box [.any,.val Riii])),(5,(.box [.any,.val Riii])),(6,(.box [.val Riii])),(7,.any),(8,(.box [.any,.own Riii]))] q2kp q2ks q2kr C v:=rgI (by kernel_rfl)
abbrev q2ku:Type:=Int×Int×List Diii×Int×List Diii×List Diii×Int×Int×Int×List Diii
def q2kv (v:q2ku):St:=⟨[(4,.ptr 0 0),(5,.ptr 1 0),(6,.ptr 2 0),(7,.ptr 3 0),(8,.ptr 4 0),(10,i6 v.1)],[.cells [i6 v.2.1,.fz Riii v.2.2.1],.cells [i6 v.2.2.2.1,.fz Riii v.2.2.2.2.1],.cells [.fz Riii v.2.2.2.2.2.1],.cells [i6 v.2.2.2.2.2.2.1,i6 v.2.2.2.2.2.2.2.1],.cells [i6 v.2.2.2.2.2.2.2.2.1,.rs 5],.rows Riii v.2.2.2.2.2.2.2.2.2]⟩
def q2kw (C:q2kl) (v:q2kq):Dt q2ku:=(Dt.bnd (C.1 ((v.1,v.2.1,()),())) fun r1=>(Dt.ret (r1,v.1,v.2.1,v.2.2.1,v.2.2.2.1,v.2.2.2.2.1,v.2.2.2.2.2.1,v.2.2.2.2.2.2.1,v.2.2.2.2.2.2.2.1,v.2.2.2.2.2.2.2.2)))
theorem q2kx C v:q35i (regO (qea f30) 1) false [(4,(.box [.any,.val Riii])),(5,(.box [.any,.val Riii])),(6,(.box [.val Riii])),(7,.any),(8,(.box [.any,.own Riii])),(10,.any)] q2kr q2kw q2kv C v:=rgI (by kernel_rfl)
abbrev q2ky:Type:=Int×Bool×Int×List Diii×Int×List Diii×List Diii×Int×Int×Int×List Diii
def q2kz (v:q2ky):St:=⟨[(4,.ptr 0 0),(5,.ptr 1 0),(6,.ptr 2 0),(7,.ptr 3 0),(8,.ptr 4 0),(10,i6 v.1),(30,.bool v.2.1)],[.cells [i6 v.2.2.1,.fz Riii v.2.2.2.1],.cells [i6 v.2.2.2.2.1,.fz Riii v.2.2.2.2.2.1],.cells [.fz Riii v.2.2.2.2.2.2.1],.cells [i6 v.2.2.2.2.2.2.2.1,i6 v.2.2.2.2.2.2.2.2.1],.cells [i6 v.2.2.2.2.2.2.2.2.2.1,.rs 5],.rows Riii v.2.2.2.2.2.2.2.2.2.2]⟩
def q2l0 (C:q2kl) (v:q2ku):Dt q2ky:=(Dt.ret (v.1,(v.1 != (0:Int)),v.2.1,v.2.2.1,v.2.2.2.1,v.2.2.2.2.1,v.2.2.2.2.2.1,v.2.2.2.2.2.2.1,v.2.2.2.2.2.2.2.1,v.2.2.2.2.2.2.2.2.1,v.2.2.2.2.2.2.2.2.2))
theorem q2l1 C v:q35i (regO (qea f30) 2) false [(4,(.box [.any,.val Riii])),(5,(.box [.any,.val Riii])),(6,(.box [.val Riii])),(7,.any),(8,(.box [.any,.own Riii])),(10,.any),(30,.any)] q2kv q2l0 q2kz C v:=rgI (by kernel_rfl)
abbrev q2l2:Type:=Int×Int×List Diii
def q2l3 (v:q2l2):St:=⟨[(8,.ptr 0 0),(9,i6 v.1)],[.cells [i6 v.2.1,.rs 1],.rows Riii v.2.2]⟩
def q2l4 (C:q2kl) (v:q2ky):Dt q2l2:=(Dt.ret (v.1,(0:Int),([]:List Diii)))
theorem q2l5 C v:q35i (regO (qea f30) 3) false [(8,(.box [.any,.own Riii])),(9,.any)] q2kz q2l4 q2l3 C v:=rgI (by kernel_rfl)
abbrev q2l6:Type:=Int×Int×List Diii×Int×List Diii×List Diii×Int×Int×Int×List Diii
def q2l7 (v:q2l6):St:=⟨[(4,.ptr 0 0),(5,.ptr 1 0),(6,.ptr 2 0),(7,.ptr 3 0),(8,.ptr 4 0),(11,i6 v.1)],[.cells [i6 v.2.1,.fz Riii v.2.2.1],.cells [i6 v.2.2.2.1,.fz Riii v.2.2.2.2.1],.cells [.fz Riii v.2.2.2.2.2.1],.cells [i6 v.2.2.2.2.2.2.1,i6 v.2.2.2.2.2.2.2.1],.cells [i6 v.2.2.2.2.2.2.2.2.1,.rs 5],.rows Riii v.2.2.2.2.2.2.2.2.2]⟩
def q2l8 (C:q2kl) (v:q2ky):Dt q2l6:=(Dt.bnd (C.1 ((v.2.2.2.2.1,v.2.2.2.2.2.1,()),())) fun r1=>(Dt.ret (r1,v.2.2.1,v.2.2.2.1,v.2.2.2.2.1,v.2.2.2.2.2.1,v.2.2.2.2.2.2.1,v.2.2.2.2.2.2.2.1,v.2.2.2.2.2.2.2.2.1,v.2.2.2.2.2.2.2.2.2.1,v.2.2.2.2.2.2.2.2.2.2)))
theorem q2l9 C v:q35i (regO (qea f30) 4) false [(4,(.box [.any,.val Riii])),(5,(.box [.any,.val Riii])),(6,(.box [.val Riii])),(7,.any),(8,(.box [.any,.own Riii])),(11,.any)] q2kz q2l8 q2l7 C v:=rgI (by kernel_rfl)
abbrev q2la:Type:=Int×Bool×Int×List Diii×Int×List Diii×List Diii×Int×Int×Int×List Diii
def q2lb (v:q2la):St:=⟨[(4,.ptr 0 0),(5,.ptr 1 0),(6,.ptr 2 0),(7,.ptr 3 0),(8,.ptr 4 0),(11,i6 v.1),(36,.bool v.2.1)],[.cells [i6 v.2.2.1,.fz Riii v.2.2.2.1],.cells [i6 v.2.2.2.2.1,.fz Riii v.2.2.2.2.2.1],.cells [.fz Riii v.2.2.2.2.2.2.1],.cells [i6 v.2.2.2.2.2.2.2.1,i6 v.2.2.2.2.2.2.2.2.1],.cells [i6 v.2.2.2.2.2.2.2.2.2.1,.rs 5],.rows Riii v.2.2.2.2.2.2.2.2.2.2]⟩
def q2lc (C:q2kl) (v:q2l6):Dt q2la:=(Dt.ret (v.1,(v.1 != (0:Int)),v.2.1,v.2.2.1,v.2.2.2.1,v.2.2.2.2.1,v.2.2.2.2.2.1,v.2.2.2.2.2.2.1,v.2.2.2.2.2.2.2.1,v.2.2.2.2.2.2.2.2.1,v.2.2.2.2.2.2.2.2.2))
theorem q2ld C v:q35i (regO (qea f30) 5) false [(4,(.box [.any,.val Riii])),(5,(.box [.any,.val Riii])),(6,(.box [.val Riii])),(7,.any),(8,(.box [.any,.own Riii])),(11,.any),(36,.any)] q2l7 q2lc q2lb C v:=rgI (by kernel_rfl)
def q2le (C:q2kl) (v:q2la):Dt q2l2:=(Dt.ret (v.1,(0:Int),([]:List Diii)))
theorem q2lf C v:q35i (regO (qea f30) 6) false [(8,(.box [.any,.own Riii])),(9,.any)] q2lb q2le q2l3 C v:=rgI (by kernel_rfl)
abbrev q2lg:Type:=Bool×Int×List Diii×Int×List Diii×List Diii×Int×Int×Int×List Diii
def q2lh (v:q2lg):St:=⟨[(4,.ptr 0 0),(5,.ptr 1 0),(6,.ptr 2 0),(7,.ptr 3 0),(8,.ptr 4 0),(46,.bool v.1)],[.cells [i6 v.2.1,.fz Riii v.2.2.1],.cells [i6 v.2.2.2.1,.fz Riii v.2.2.2.2.1],.cells [.fz Riii v.2.2.2.2.2.1],.cells [i6 v.2.2.2.2.2.2.1,i6 v.2.2.2.2.2.2.2.1],.cells [i6 v.2.2.2.2.2.2.2.2.1,.rs 5],.rows Riii v.2.2.2.2.2.2.2.2.2]⟩
def q2li (C:q2kl) (v:q2la):Dt q2lg:=(Dt.bnd (C.2.2.2.1 ((v.2.2.1,v.2.2.2.1,()),())) fun r1=>(Dt.ite (!r1) (Dt.ret (true,v.2.2.1,v.2.2.2.1,v.2.2.2.2.1,v.2.2.2.2.2.1,v.2.2.2.2.2.2.1,v.2.2.2.2.2.2.2.1,v.2.2.2.2.2.2.2.2.1,v.2.2.2.2.2.2.2.2.2.1,v.2.2.2.2.2.2.2.2.2.2)) (Dt.bnd (C.2.2.2.1 ((v.2.2.2.2.1,v.2.2.2.2.2.1,()),())) fun r2=>(Dt.ret ((!r2),v.2.2.1,v.2.2.2.1,v.2.2.2.2.1,v.2.2.2.2.2.1,v.2.2.2.2.2.2.1,v.2.2.2.2.2.2.2.1,v.2.2.2.2.2.2.2.2.1,v.2.2.2.2.2.2.2.2.2.1,v.2.2.2.2.2.2.2.2.2.2)))))
theorem q2lj C v:q35i (regO (qea f30) 7) false [(4,(.box [.any,.val Riii])),(5,(.box [.any,.val Riii])),(6,(.box [.val Riii])),(7,.any),(8,(.box [.any,.own Riii])),(46,.any)] q2lb q2li q2lh C v:=rgI (by kernel_rfl)
def q2lk (C:q2kl) (v:q2lg):Dt q2l2:=(Dt.ret ((32:Int),(0:Int),([]:List Diii)))
theorem q2ll C v:q35i (regO (qea f30) 8) false [(8,(.box [.any,.own Riii])),(9,.any)] q2lh q2lk q2l3 C v:=rgI (by kernel_rfl)
abbrev q2lm:Type:=Int×Int×List Diii×Int×List Diii×List Diii×Int×Int×Int×List Diii
def q2ln (v:q2lm):St:=⟨[(4,.ptr 0 0),(5,.ptr 1 0),(6,.ptr 2 0),(7,.ptr 3 0),(8,.ptr 4 0),(12,i6 v.1)],[.cells [i6 v.2.1,.fz Riii v.2.2.1],.cells [i6 v.2.2.2.1,.fz Riii v.2.2.2.2.1],.cells [.fz Riii v.2.2.2.2.2.1],.cells [i6 v.2.2.2.2.2.2.1,i6 v.2.2.2.2.2.2.2.1],.cells [i6 v.2.2.2.2.2.2.2.2.1,.rs 5],.rows Riii v.2.2.2.2.2.2.2.2.2]⟩
def q2lo (C:q2kl) (v:q2lg):Dt q2lm:=(Dt.bnd (C.2.1 ((v.2.2.2.2.2.1,()),(v.2.2.2.2.2.2.1,v.2.2.2.2.2.2.2.1,()),())) fun r1=>(Dt.ret (r1,v.2.1,v.2.2.1,v.2.2.2.1,v.2.2.2.2.1,v.2.2.2.2.2.1,v.2.2.2.2.2.2.1,v.2.2.2.2.2.2.2.1,v.2.2.2.2.2.2.2.2.1,v.2.2.2.2.2.2.2.2.2)))
theorem q2lp C v:q35i (regO (qea f30) 9) false [(4,(.box [.any,.val Riii])),(5,(.box [.any,.val Riii])),(6,(.box [.val Riii])),(7,.any),(8,(.box [.any,.own Riii])),(12,.any)] q2lh q2lo q2ln C v:=rgI (by kernel_rfl)
abbrev q2lq:Type:=Int×Bool×Int×List Diii×Int×List Diii×List Diii×Int×Int×Int×List Diii
def q2lr (v:q2lq):St:=⟨[(4,.ptr 0 0),(5,.ptr 1 0),(6,.ptr 2 0),(7,.ptr 3 0),(8,.ptr 4 0),(12,i6 v.1),(52,.bool v.2.1)],[.cells [i6 v.2.2.1,.fz Riii v.2.2.2.1],.cells [i6 v.2.2.2.2.1,.fz Riii v.2.2.2.2.2.1],.cells [.fz Riii v.2.2.2.2.2.2.1],.cells [i6 v.2.2.2.2.2.2.2.1,i6 v.2.2.2.2.2.2.2.2.1],.cells [i6 v.2.2.2.2.2.2.2.2.2.1,.rs 5],.rows Riii v.2.2.2.2.2.2.2.2.2.2]⟩
def q2ls (C:q2kl) (v:q2lm):Dt q2lq:=(Dt.ret (v.1,(v.1 != (0:Int)),v.2.1,v.2.2.1,v.2.2.2.1,v.2.2.2.2.1,v.2.2.2.2.2.1,v.2.2.2.2.2.2.1,v.2.2.2.2.2.2.2.1,v.2.2.2.2.2.2.2.2.1,v.2.2.2.2.2.2.2.2.2))
theorem q2lt C v:q35i (regO (qea f30) 10) false [(4,(.box [.any,.val Riii])),(5,(.box [.any,.val Riii])),(6,(.box [.val Riii])),(7,.any),(8,(.box [.any,.own Riii])),(12,.any),(52,.any)] q2ln q2ls q2lr C v:=rgI (by kernel_rfl)
def q2lu (C:q2kl) (v:q2lq):Dt q2l2:=(Dt.ret (v.1,(0:Int),([]:List Diii)))
theorem q2lv C v:q35i (regO (qea f30) 11) false [(8,(.box [.any,.own Riii])),(9,.any)] q2lr q2lu q2l3 C v:=rgI (by kernel_rfl)
abbrev q2lw:Type:=Int×Int×List Diii×Int×List Diii×List Diii×Int×Int×Int×List Diii
def q2lx (v:q2lw):St:=⟨[(4,.ptr 0 0),(5,.ptr 1 0),(6,.ptr 2 0),(7,.ptr 3 0),(8,.ptr 4 0),(13,i6 v.1)],[.cells [i6 v.2.1,.fz Riii v.2.2.1],.cells [i6 v.2.2.2.1,.fz Riii v.2.2.2.2.1],.cells [.fz Riii v.2.2.2.2.2.1],.cells [i6 v.2.2.2.2.2.2.1,i6 v.2.2.2.2.2.2.2.1],.cells [i6 v.2.2.2.2.2.2.2.2.1,.rs 5],.rows Riii v.2.2.2.2.2.2.2.2.2]⟩
def q2ly (C:q2kl) (v:q2lq):Dt q2lw:=(Dt.ret ((List.length v.2.2.2.1:Int),v.2.2.1,v.2.2.2.1,v.2.2.2.2.1,v.2.2.2.2.2.1,v.2.2.2.2.2.2.1,v.2.2.2.2.2.2.2.1,v.2.2.2.2.2.2.2.2.1,v.2.2.2.2.2.2.2.2.2.1,v.2.2.2.2.2.2.2.2.2.2))
theorem q2lz C v:q35i (regO (qea f30) 12) false [(4,(.box [.any,.val Riii])),(5,(.box [.any,.val Riii])),(6,(.box [.val Riii])),(7,.any),(8,(.box [.any,.own Riii])),(13,.any)] q2lr q2ly q2lx C v:=rgI (by kernel_rfl)
abbrev q2m0:Type:=Int×Bool×Int×List Diii×Int×List Diii×List Diii×Int×Int×Int×List Diii
def q2m1 (v:q2m0):St:=⟨[(4,.ptr 0 0),(5,.ptr 1 0),(6,.ptr 2 0),(7,.ptr 3 0),(8,.ptr 4 0),(13,i6 v.1),(63,.bool v.2.1)],[.cells [i6 v.2.2.1,.fz Riii v.2.2.2.1],.cells [i6 v.2.2.2.2.1,.fz Riii v.2.2.2.2.2.1],.cells [.fz Riii v.2.2.2.2.2.2.1],.cells [i6 v.2.2.2.2.2.2.2.1,i6 v.2.2.2.2.2.2.2.2.1],.cells [i6 v.2.2.2.2.2.2.2.2.2.1,.rs 5],.rows Riii v.2.2.2.2.2.2.2.2.2.2]⟩
def q2m2 (C:q2kl) (v:q2lw):Dt q2m0:=(Dt.ret (v.1,(decide ((IntKind.wrap .i64 (v.1+(List.length v.2.2.2.2.1:Int))) > (64:Int))),v.2.1,v.2.2.1,v.2.2.2.1,v.2.2.2.2.1,v.2.2.2.2.2.1,v.2.2.2.2.2.2.1,v.2.2.2.2.2.2.2.1,v.2.2.2.2.2.2.2.2.1,v.2.2.2.2.2.2.2.2.2))
theorem q2m3 C v:q35i (regO (qea f30) 13) false [(4,(.box [.any,.val Riii])),(5,(.box [.any,.val Riii])),(6,(.box [.val Riii])),(7,.any),(8,(.box [.any,.own Riii])),(13,.any),(63,.any)] q2lx q2m2 q2m1 C v:=rgI (by kernel_rfl)
def q2m4 (C:q2kl) (v:q2m0):Dt q2l2:=(Dt.ret ((4:Int),(0:Int),([]:List Diii)))
theorem q2m5 C v:q35i (regO (qea f30) 14) false [(8,(.box [.any,.own Riii])),(9,.any)] q2m1 q2m4 q2l3 C v:=rgI (by kernel_rfl)
abbrev q2m6:Type:=Int×Int×List Diii×Int×List Diii×List Diii×Int×Int×Int×List Diii×List (Int×Diii)
def q2m7 (v:q2m6):St:=⟨[(4,.ptr 0 0),(5,.ptr 1 0),(6,.ptr 2 0),(7,.ptr 3 0),(8,.ptr 4 0),(13,i6 v.1),(14,.mp 6)],[.cells [i6 v.2.1,.fz Riii v.2.2.1],.cells [i6 v.2.2.2.1,.fz Riii v.2.2.2.2.1],.cells [.fz Riii v.2.2.2.2.2.1],.cells [i6 v.2.2.2.2.2.2.1,i6 v.2.2.2.2.2.2.2.1],.cells [i6 v.2.2.2.2.2.2.2.2.1,.rs 5],.rows Riii v.2.2.2.2.2.2.2.2.2.1,.imap .i64 true Riii v.2.2.2.2.2.2.2.2.2.2]⟩
def q2m8 (C:q2kl) (v:q2m0):Dt q2m6:=(Dt.ret (v.1,v.2.2.1,v.2.2.2.1,v.2.2.2.2.1,v.2.2.2.2.2.1,v.2.2.2.2.2.2.1,v.2.2.2.2.2.2.2.1,v.2.2.2.2.2.2.2.2.1,v.2.2.2.2.2.2.2.2.2.1,v.2.2.2.2.2.2.2.2.2.2,([]:List (Int×Diii))))
theorem q2m9 C v:q35i (regO (qea f30) 15) false [(4,(.box [.any,.val Riii])),(5,(.box [.any,.val Riii])),(6,(.box [.val Riii])),(7,.any),(8,(.box [.any,.own Riii])),(13,.any),(14,.any)] q2m1 q2m8 q2m7 C v:=rgI (by kernel_rfl)
abbrev q2ma:Type:=Int×List Diii×Int×Int×Int×List Diii×Int×List Diii×Int×Int×Int×List Diii×List (Int×Diii)
def q2mb (v:q2ma):St:=⟨[(4,.ptr 0 0),(5,.ptr 1 0),(7,.ptr 2 0),(8,.ptr 3 0),(13,i6 v.1),(14,.mp 5),(67,.fz Riii v.2.1),(68,i6 v.2.2.1),(69,i6 v.2.2.2.1)],[.cells [i6 v.2.2.2.2.1,.fz Riii v.2.2.2.2.2.1],.cells [i6 v.2.2.2.2.2.2.1,.fz Riii v.2.2.2.2.2.2.2.1],.cells [i6 v.2.2.2.2.2.2.2.2.1,i6 v.2.2.2.2.2.2.2.2.2.1],.cells [i6 v.2.2.2.2.2.2.2.2.2.2.1,.rs 4],.rows Riii v.2.2.2.2.2.2.2.2.2.2.2.1,.imap .i64 true Riii v.2.2.2.2.2.2.2.2.2.2.2.2]⟩
def q2mc (C:q2kl) (v:q2m6):Dt q2ma:=(Dt.ret (v.1,v.2.2.2.2.2.1,(List.length v.2.2.2.2.2.1:Int),(0:Int),v.2.1,v.2.2.1,v.2.2.2.1,v.2.2.2.2.1,v.2.2.2.2.2.2.1,v.2.2.2.2.2.2.2.1,v.2.2.2.2.2.2.2.2.1,v.2.2.2.2.2.2.2.2.2.1,v.2.2.2.2.2.2.2.2.2.2))
theorem q2md C v:q35i (regO (qea f30) 16) false [(4,(.box [.any,.val Riii])),(5,(.box [.any,.val Riii])),(7,.any),(8,(.box [.any,.own Riii])),(13,.any),(14,.any),(67,(.val Riii)),(68,.any),(69,.any)] q2m7 q2mc q2mb C v:=rgI (by kernel_rfl)
abbrev q2me:Type:=Int×List Diii×Int×Int×Bool×Int×List Diii×Int×List Diii×Int×Int×Int×List Diii×List (Int×Diii)
def q2mf (v:q2me):St:=⟨[(4,.ptr 0 0),(5,.ptr 1 0),(7,.ptr 2 0),(8,.ptr 3 0),(13,i6 v.1),(14,.mp 5),(67,.fz Riii v.2.1),(68,i6 v.2.2.1),(69,i6 v.2.2.2.1),(70,.bool v.2.2.2.2.1)],[.cells [i6 v.2.2.2.2.2.1,.fz Riii v.2.2.2.2.2.2.1],.cells [i6 v.2.2.2.2.2.2.2.1,.fz Riii v.2.2.2.2.2.2.2.2.1],.cells [i6 v.2.2.2.2.2.2.2.2.2.1,i6 v.2.2.2.2.2.2.2.2.2.2.1],.cells [i6 v.2.2.2.2.2.2.2.2.2.2.2.1,.rs 4],.rows Riii v.2.2.2.2.2.2.2.2.2.2.2.2.1,.imap .i64 true Riii v.2.2.2.2.2.2.2.2.2.2.2.2.2]⟩
def q2mg (C:q2kl) (v:q2ma):Dt q2me:=(Dt.ret (v.1,v.2.1,v.2.2.1,v.2.2.2.1,(decide (v.2.2.2.1<v.2.2.1)),v.2.2.2.2.1,v.2.2.2.2.2.1,v.2.2.2.2.2.2.1,v.2.2.2.2.2.2.2.1,v.2.2.2.2.2.2.2.2.1,v.2.2.2.2.2.2.2.2.2.1,v.2.2.2.2.2.2.2.2.2.2.1,v.2.2.2.2.2.2.2.2.2.2.2.1,v.2.2.2.2.2.2.2.2.2.2.2.2))
theorem q2mh C v:q35i (regO (qea f30) 17) false [(4,(.box [.any,.val Riii])),(5,(.box [.any,.val Riii])),(7,.any),(8,(.box [.any,.own Riii])),(13,.any),(14,.any),(67,(.val Riii)),(68,.any),(69,.any),(70,.any)] q2mb q2mg q2mf C v:=rgI (by kernel_rfl)
abbrev q2mi:Type:=Int×List Diii×Int×Int×Int×List Diii×Int×List Diii×Int×Int×Int×List Diii×List (Int×Diii)×Int×Int×Int
def q2mj (v:q2mi):St:=⟨[(4,.ptr 0 0),(5,.ptr 1 0),(7,.ptr 2 0),(8,.ptr 3 0),(13,i6 v.1),(14,.mp 5),(16,.ptr 6 0),(67,.fz Riii v.2.1),(68,i6 v.2.2.1),(69,i6 v.2.2.2.1)],[.cells [i6 v.2.2.2.2.1,.fz Riii v.2.2.2.2.2.1],.cells [i6 v.2.2.2.2.2.2.1,.fz Riii v.2.2.2.2.2.2.2.1],.cells [i6 v.2.2.2.2.2.2.2.2.1,i6 v.2.2.2.2.2.2.2.2.2.1],.cells [i6 v.2.2.2.2.2.2.2.2.2.2.1,.rs 4],.rows Riii v.2.2.2.2.2.2.2.2.2.2.2.1,.imap .i64 true Riii v.2.2.2.2.2.2.2.2.2.2.2.2.1,.cells [i6 v.2.2.2.2.2.2.2.2.2.2.2.2.2.1,i6 v.2.2.2.2.2.2.2.2.2.2.2.2.2.2.1,i6 v.2.2.2.2.2.2.2.2.2.2.2.2.2.2.2]]⟩
def q2mk (C:q2kl) (v:q2me):Dt q2mi:=(Dt.ite (inB v.2.2.2.1 (List.length v.2.1)) (Dt.ret (v.1,v.2.1,v.2.2.1,v.2.2.2.1,v.2.2.2.2.2.1,v.2.2.2.2.2.2.1,v.2.2.2.2.2.2.2.1,v.2.2.2.2.2.2.2.2.1,v.2.2.2.2.2.2.2.2.2.1,v.2.2.2.2.2.2.2.2.2.2.1,v.2.2.2.2.2.2.2.2.2.2.2.1,v.2.2.2.2.2.2.2.2.2.2.2.2.1,v.2.2.2.2.2.2.2.2.2.2.2.2.2,(elt ziii v.2.1 (v.2.2.2.1).toNat).1,(elt ziii v.2.1 (v.2.2.2.1).toNat).2.1,(elt ziii v.2.1 (v.2.2.2.1).toNat).2.2.1)) Dt.fail)
theorem q2ml C v:q35i (regO (qea f30) 18) false [(4,(.box [.any,.val Riii])),(5,(.box [.any,.val Riii])),(7,.any),(8,(.box [.any,.own Riii])),(13,.any),(14,.any),(16,.any),(67,(.val Riii)),(68,.any),(69,.any)] q2mf q2mk q2mj C v:=rgI (by kernel_rfl)
def q2mm (C:q2kl) (v:q2mi):Dt q2ma:=(Dt.ret (v.1,v.2.1,v.2.2.1,v.2.2.2.1,v.2.2.2.2.1,v.2.2.2.2.2.1,v.2.2.2.2.2.2.1,v.2.2.2.2.2.2.2.1,v.2.2.2.2.2.2.2.2.1,v.2.2.2.2.2.2.2.2.2.1,v.2.2.2.2.2.2.2.2.2.2.1,v.2.2.2.2.2.2.2.2.2.2.2.1,(mput Riii v.2.2.2.2.2.2.2.2.2.2.2.2.1 v.2.2.2.2.2.2.2.2.2.2.2.2.2.1 (v.2.2.2.2.2.2.2.2.2.2.2.2.2.1,v.2.2.2.2.2.2.2.2.2.2.2.2.2.2.1,v.2.2.2.2.2.2.2.2.2.2.2.2.2.2.2,()))))
theorem q2mn C v:q35i (regO (qea f30) 19) false [(4,(.box [.any,.val Riii])),(5,(.box [.any,.val Riii])),(7,.any),(8,(.box [.any,.own Riii])),(13,.any),(14,.any),(67,(.val Riii)),(68,.any),(69,.any)] q2mj q2mm q2mb C v:=rgI (by kernel_rfl)
def q2mo (C:q2kl) (v:q2ma):Dt q2ma:=(Dt.ret (v.1,v.2.1,v.2.2.1,(IntKind.wrap .i64 (v.2.2.2.1+(1:Int))),v.2.2.2.2.1,v.2.2.2.2.2.1,v.2.2.2.2.2.2.1,v.2.2.2.2.2.2.2.1,v.2.2.2.2.2.2.2.2.1,v.2.2.2.2.2.2.2.2.2.1,v.2.2.2.2.2.2.2.2.2.2.1,v.2.2.2.2.2.2.2.2.2.2.2.1,v.2.2.2.2.2.2.2.2.2.2.2.2))
theorem q2mp C v:q35i (regO (qea f30) 20) false [(4,(.box [.any,.val Riii])),(5,(.box [.any,.val Riii])),(7,.any),(8,(.box [.any,.own Riii])),(13,.any),(14,.any),(67,(.val Riii)),(68,.any),(69,.any)] q2mb q2mo q2mb C v:=rgI (by kernel_rfl)
abbrev q2mq:Type:=Int×Int×List Diii×Int×List Diii×Int×Int×Int×List Diii×List (Int×Diii)×Int×List Diii
def q2mr (v:q2mq):St:=⟨[(4,.ptr 0 0),(5,.ptr 1 0),(7,.ptr 2 0),(8,.ptr 3 0),(13,i6 v.1),(14,.mp 5),(17,.ptr 6 0)],[.cells [i6 v.2.1,.fz Riii v.2.2.1],.cells [i6 v.2.2.2.1,.fz Riii v.2.2.2.2.1],.cells [i6 v.2.2.2.2.2.1,i6 v.2.2.2.2.2.2.1],.cells [i6 v.2.2.2.2.2.2.2.1,.rs 4],.rows Riii v.2.2.2.2.2.2.2.2.1,.imap .i64 true Riii v.2.2.2.2.2.2.2.2.2.1,.cells [i6 v.2.2.2.2.2.2.2.2.2.2.1,.rs 7],.rows Riii v.2.2.2.2.2.2.2.2.2.2.2]⟩
def q2ms (C:q2kl) (v:q2me):Dt q2mq:=(Dt.bnd (C.2.2.2.2.1 ((([(v.2.2.2.2.2.2.1,()),(v.2.2.2.2.2.2.2.2.1,())]:List qkt),()),())) fun r1=>(Dt.ret (v.1,v.2.2.2.2.2.1,v.2.2.2.2.2.2.1,v.2.2.2.2.2.2.2.1,v.2.2.2.2.2.2.2.2.1,v.2.2.2.2.2.2.2.2.2.1,v.2.2.2.2.2.2.2.2.2.2.1,v.2.2.2.2.2.2.2.2.2.2.2.1,v.2.2.2.2.2.2.2.2.2.2.2.2.1,v.2.2.2.2.2.2.2.2.2.2.2.2.2,(0:Int),r1)))
theorem q2mt C v:q35i (regO (qea f30) 21) false [(4,(.box [.any,.val Riii])),(5,(.box [.any,.val Riii])),(7,.any),(8,(.box [.any,.own Riii])),(13,.any),(14,.any),(17,(.box [.any,.own Riii]))] q2mf q2ms q2mr C v:=rgI (by kernel_rfl)
abbrev q2mu:Type:=Int×Int×Int×Int×List Diii×Int×List Diii×Int×Int×Int×List Diii×List (Int×Diii)×Int×List Diii
def q2mv (v:q2mu):St:=⟨[(4,.ptr 0 0),(5,.ptr 1 0),(7,.ptr 2 0),(8,.ptr 3 0),(13,i6 v.1),(14,.mp 5),(17,.ptr 6 0),(86,.rs 7),(87,i6 v.2.1),(88,i6 v.2.2.1)],[.cells [i6 v.2.2.2.1,.fz Riii v.2.2.2.2.1],.cells [i6 v.2.2.2.2.2.1,.fz Riii v.2.2.2.2.2.2.1],.cells [i6 v.2.2.2.2.2.2.2.1,i6 v.2.2.2.2.2.2.2.2.1],.cells [i6 v.2.2.2.2.2.2.2.2.2.1,.rs 4],.rows Riii v.2.2.2.2.2.2.2.2.2.2.1,.imap .i64 true Riii v.2.2.2.2.2.2.2.2.2.2.2.1,.cells [i6 v.2.2.2.2.2.2.2.2.2.2.2.2.1,.rs 7],.rows Riii v.2.2.2.2.2.2.2.2.2.2.2.2.2]⟩
def q2mw (C:q2kl) (v:q2mq):Dt q2mu:=(Dt.ret (v.1,(List.length v.2.2.2.2.2.2.2.2.2.2.2:Int),(0:Int),v.2.1,v.2.2.1,v.2.2.2.1,v.2.2.2.2.1,v.2.2.2.2.2.1,v.2.2.2.2.2.2.1,v.2.2.2.2.2.2.2.1,v.2.2.2.2.2.2.2.2.1,v.2.2.2.2.2.2.2.2.2.1,v.2.2.2.2.2.2.2.2.2.2.1,v.2.2.2.2.2.2.2.2.2.2.2))
theorem q2mx C v:q35i (regO (qea f30) 22) false [(4,(.box [.any,.val Riii])),(5,(.box [.any,.val Riii])),(7,.any),(8,(.box [.any,.own Riii])),(13,.any),(14,.any),(17,(.box [.any,.own Riii])),(86,(.own Riii)),(87,.any),(88,.any)] q2mr q2mw q2mv C v:=rgI (by kernel_rfl)
abbrev q2my:Type:=Int×Int×Int×Bool×Int×List Diii×Int×List Diii×Int×Int×Int×List Diii×List (Int×Diii)×Int×List Diii
def q2mz (v:q2my):St:=⟨[(4,.ptr 0 0),(5,.ptr 1 0),(7,.ptr 2 0),(8,.ptr 3 0),(13,i6 v.1),(14,.mp 5),(17,.ptr 6 0),(86,.rs 7),(87,i6 v.2.1),(88,i6 v.2.2.1),(89,.bool v.2.2.2.1)],[.cells [i6 v.2.2.2.2.1,.fz Riii v.2.2.2.2.2.1],.cells [i6 v.2.2.2.2.2.2.1,.fz Riii v.2.2.2.2.2.2.2.1],.cells [i6 v.2.2.2.2.2.2.2.2.1,i6 v.2.2.2.2.2.2.2.2.2.1],.cells [i6 v.2.2.2.2.2.2.2.2.2.2.1,.rs 4],.rows Riii v.2.2.2.2.2.2.2.2.2.2.2.1,.imap .i64 true Riii v.2.2.2.2.2.2.2.2.2.2.2.2.1,.cells [i6 v.2.2.2.2.2.2.2.2.2.2.2.2.2.1,.rs 7],.rows Riii v.2.2.2.2.2.2.2.2.2.2.2.2.2.2]⟩
def q2n0 (C:q2kl) (v:q2mu):Dt q2my:=(Dt.ret (v.1,v.2.1,v.2.2.1,(decide (v.2.2.1<v.2.1)),v.2.2.2.1,v.2.2.2.2.1,v.2.2.2.2.2.1,v.2.2.2.2.2.2.1,v.2.2.2.2.2.2.2.1,v.2.2.2.2.2.2.2.2.1,v.2.2.2.2.2.2.2.2.2.1,v.2.2.2.2.2.2.2.2.2.2.1,v.2.2.2.2.2.2.2.2.2.2.2.1,v.2.2.2.2.2.2.2.2.2.2.2.2.1,v.2.2.2.2.2.2.2.2.2.2.2.2.2))
theorem q2n1 C v:q35i (regO (qea f30) 23) false [(4,(.box [.any,.val Riii])),(5,(.box [.any,.val Riii])),(7,.any),(8,(.box [.any,.own Riii])),(13,.any),(14,.any),(17,(.box [.any,.own Riii])),(86,(.own Riii)),(87,.any),(88,.any),(89,.any)] q2mv q2n0 q2mz C v:=rgI (by kernel_rfl)
abbrev q2n2:Type:=Int×Int×Int×Int×Int×List Diii×Int×List Diii×Int×Int×Int×List Diii×List (Int×Diii)×Int×List Diii×Int×Int×Int
def q2n3 (v:q2n2):St:=⟨[(4,.ptr 0 0),(5,.ptr 1 0),(7,.ptr 2 0),(8,.ptr 3 0),(13,i6 v.1),(14,.mp 5),(17,.ptr 6 0),(18,i6 v.2.1),(19,.ptr 8 0),(86,.rs 7),(87,i6 v.2.2.1),(88,i6 v.2.2.2.1)],[.cells [i6 v.2.2.2.2.1,.fz Riii v.2.2.2.2.2.1],.cells [i6 v.2.2.2.2.2.2.1,.fz Riii v.2.2.2.2.2.2.2.1],.cells [i6 v.2.2.2.2.2.2.2.2.1,i6 v.2.2.2.2.2.2.2.2.2.1],.cells [i6 v.2.2.2.2.2.2.2.2.2.2.1,.rs 4],.rows Riii v.2.2.2.2.2.2.2.2.2.2.2.1,.imap .i64 true Riii v.2.2.2.2.2.2.2.2.2.2.2.2.1,.cells [i6 v.2.2.2.2.2.2.2.2.2.2.2.2.2.1,.rs 7],.rows Riii v.2.2.2.2.2.2.2.2.2.2.2.2.2.2.1,.cells [i6 v.2.2.2.2.2.2.2.2.2.2.2.2.2.2.2.1,i6 v.2.2.2.2.2.2.2.2.2.2.2.2.2.2.2.2.1,i6 v.2.2.2.2.2.2.2.2.2.2.2.2.2.2.2.2.2]]⟩
def q2n4 (C:q2kl) (v:q2my):Dt q2n2:=(Dt.ite (inB v.2.2.1 (List.length v.2.2.2.2.2.2.2.2.2.2.2.2.2.2)) (Dt.ret (v.1,v.2.2.1,v.2.1,v.2.2.1,v.2.2.2.2.1,v.2.2.2.2.2.1,v.2.2.2.2.2.2.1,v.2.2.2.2.2.2.2.1,v.2.2.2.2.2.2.2.2.1,v.2.2.2.2.2.2.2.2.2.1,v.2.2.2.2.2.2.2.2.2.2.1,v.2.2.2.2.2.2.2.2.2.2.2.1,v.2.2.2.2.2.2.2.2.2.2.2.2.1,v.2.2.2.2.2.2.2.2.2.2.2.2.2.1,v.2.2.2.2.2.2.2.2.2.2.2.2.2.2,(elt ziii v.2.2.2.2.2.2.2.2.2.2.2.2.2.2 (v.2.2.1).toNat).1,(elt ziii v.2.2.2.2.2.2.2.2.2.2.2.2.2.2 (v.2.2.1).toNat).2.1,(elt ziii v.2.2.2.2.2.2.2.2.2.2.2.2.2.2 (v.2.2.1).toNat).2.2.1)) Dt.fail)
theorem q2n5 C v:q35i (regO (qea f30) 24) false [(4,(.box [.any,.val Riii])),(5,(.box [.any,.val Riii])),(7,.any),(8,(.box [.any,.own Riii])),(13,.any),(14,.any),(17,(.box [.any,.own Riii])),(18,.any),(19,.any),(86,(.own Riii)),(87,.any),(88,.any)] q2mz q2n4 q2n3 C v:=rgI (by kernel_rfl)
abbrev q2n6:Type:=Int×Int×Bool×Int×Int×Int×List Diii×Int×List Diii×Int×Int×Int×List Diii×List (Int×Diii)×Int×List Diii×Int×Int×Int
def q2n7 (v:q2n6):St:=⟨[(4,.ptr 0 0),(5,.ptr 1 0),(7,.ptr 2 0),(8,.ptr 3 0),(13,i6 v.1),(14,.mp 5),(17,.ptr 6 0),(18,i6 v.2.1),(19,.ptr 8 0),(21,.bool v.2.2.1),(86,.rs 7),(87,i6 v.2.2.2.1),(88,i6 v.2.2.2.2.1)],[.cells [i6 v.2.2.2.2.2.1,.fz Riii v.2.2.2.2.2.2.1],.cells [i6 v.2.2.2.2.2.2.2.1,.fz Riii v.2.2.2.2.2.2.2.2.1],.cells [i6 v.2.2.2.2.2.2.2.2.2.1,i6 v.2.2.2.2.2.2.2.2.2.2.1],.cells [i6 v.2.2.2.2.2.2.2.2.2.2.2.1,.rs 4],.rows Riii v.2.2.2.2.2.2.2.2.2.2.2.2.1,.imap .i64 true Riii v.2.2.2.2.2.2.2.2.2.2.2.2.2.1,.cells [i6 v.2.2.2.2.2.2.2.2.2.2.2.2.2.2.1,.rs 7],.rows Riii v.2.2.2.2.2.2.2.2.2.2.2.2.2.2.2.1,.cells [i6 v.2.2.2.2.2.2.2.2.2.2.2.2.2.2.2.2.1,i6 v.2.2.2.2.2.2.2.2.2.2.2.2.2.2.2.2.2.1,i6 v.2.2.2.2.2.2.2.2.2.2.2.2.2.2.2.2.2.2]]⟩
def q2n8 (C:q2kl) (v:q2n2):Dt q2n6:=(Dt.ret (v.1,v.2.1,(mhas Riii v.2.2.2.2.2.2.2.2.2.2.2.2.1 v.2.2.2.2.2.2.2.2.2.2.2.2.2.2.2.1),v.2.2.1,v.2.2.2.1,v.2.2.2.2.1,v.2.2.2.2.2.1,v.2.2.2.2.2.2.1,v.2.2.2.2.2.2.2.1,v.2.2.2.2.2.2.2.2.1,v.2.2.2.2.2.2.2.2.2.1,v.2.2.2.2.2.2.2.2.2.2.1,v.2.2.2.2.2.2.2.2.2.2.2.1,v.2.2.2.2.2.2.2.2.2.2.2.2.1,v.2.2.2.2.2.2.2.2.2.2.2.2.2.1,v.2.2.2.2.2.2.2.2.2.2.2.2.2.2.1,v.2.2.2.2.2.2.2.2.2.2.2.2.2.2.2.1,v.2.2.2.2.2.2.2.2.2.2.2.2.2.2.2.2.1,v.2.2.2.2.2.2.2.2.2.2.2.2.2.2.2.2.2))
theorem q2n9 C v:q35i (regO (qea f30) 25) false [(4,(.box [.any,.val Riii])),(5,(.box [.any,.val Riii])),(7,.any),(8,(.box [.any,.own Riii])),(13,.any),(14,.any),(17,(.box [.any,.own Riii])),(18,.any),(19,.any),(21,.any),(86,(.own Riii)),(87,.any),(88,.any)] q2n3 q2n8 q2n7 C v:=rgI (by kernel_rfl)
abbrev q2na:Type:=Int×Int×Int×Int×Bool×Int×List Diii×Int×List Diii×Int×Int×Int×List Diii×List (Int×Diii)×Int×List Diii×Int×Int×Int
def q2nb (v:q2na):St:=⟨[(4,.ptr 0 0),(5,.ptr 1 0),(7,.ptr 2 0),(8,.ptr 3 0),(13,i6 v.1),(14,.mp 5),(17,.ptr 6 0),(18,i6 v.2.1),(19,.ptr 8 0),(86,.rs 7),(87,i6 v.2.2.1),(88,i6 v.2.2.2.1),(101,.bool v.2.2.2.2.1)],[.cells [i6 v.2.2.2.2.2.1,.fz Riii v.2.2.2.2.2.2.1],.cells [i6 v.2.2.2.2.2.2.2.1,.fz Riii v.2.2.2.2.2.2.2.2.1],.cells [i6 v.2.2.2.2.2.2.2.2.2.1,i6 v.2.2.2.2.2.2.2.2.2.2.1],.cells [i6 v.2.2.2.2.2.2.2.2.2.2.2.1,.rs 4],.rows Riii v.2.2.2.2.2.2.2.2.2.2.2.2.1,.imap .i64 true Riii v.2.2.2.2.2.2.2.2.2.2.2.2.2.1,.cells [i6 v.2.2.2.2.2.2.2.2.2.2.2.2.2.2.1,.rs 7],.rows Riii v.2.2.2.2.2.2.2.2.2.2.2.2.2.2.2.1,.cells [i6 v.2.2.2.2.2.2.2.2.2.2.2.2.2.2.2.2.1,i6 v.2.2.2.2.2.2.2.2.2.2.2.2.2.2.2.2.2.1,i6 v.2.2.2.2.2.2.2.2.2.2.2.2.2.2.2.2.2.2]]⟩
def q2nc (C:q2kl) (v:q2n6):Dt q2na:=(Dt.ret (v.1,v.2.1,v.2.2.2.1,v.2.2.2.2.1,(!v.2.2.1),v.2.2.2.2.2.1,v.2.2.2.2.2.2.1,v.2.2.2.2.2.2.2.1,v.2.2.2.2.2.2.2.2.1,v.2.2.2.2.2.2.2.2.2.1,v.2.2.2.2.2.2.2.2.2.2.1,v.2.2.2.2.2.2.2.2.2.2.2.1,v.2.2.2.2.2.2.2.2.2.2.2.2.1,v.2.2.2.2.2.2.2.2.2.2.2.2.2.1,v.2.2.2.2.2.2.2.2.2.2.2.2.2.2.1,v.2.2.2.2.2.2.2.2.2.2.2.2.2.2.2.1,v.2.2.2.2.2.2.2.2.2.2.2.2.2.2.2.2.1,v.2.2.2.2.2.2.2.2.2.2.2.2.2.2.2.2.2.1,v.2.2.2.2.2.2.2.2.2.2.2.2.2.2.2.2.2.2))
theorem q2nd C v:q35i (regO (qea f30) 26) false [(4,(.box [.any,.val Riii])),(5,(.box [.any,.val Riii])),(7,.any),(8,(.box [.any,.own Riii])),(13,.any),(14,.any),(17,(.box [.any,.own Riii])),(18,.any),(19,.any),(86,(.own Riii)),(87,.any),(88,.any),(101,.any)] q2n7 q2nc q2nb C v:=rgI (by kernel_rfl)
def q2ne (C:q2kl) (v:q2na):Dt q2l2:=(Dt.ret ((6:Int),(0:Int),([]:List Diii)))
theorem q2nf C v:q35i (regO (qea f30) 27) false [(8,(.box [.any,.own Riii])),(9,.any)] q2nb q2ne q2l3 C v:=rgI (by kernel_rfl)
abbrev q2ng:Type:=Int×Int×Int×Int×Bool×Int×List Diii×Int×List Diii×Int×Int×Int×List Diii×List (Int×Diii)×Int×List Diii×Int×Int×Int
def q2nh (v:q2ng):St:=⟨[(4,.ptr 0 0),(5,.ptr 1 0),(7,.ptr 2 0),(8,.ptr 3 0),(13,i6 v.1),(14,.mp 5),(17,.ptr 6 0),(18,i6 v.2.1),(19,.ptr 8 0),(86,.rs 7),(87,i6 v.2.2.1),(88,i6 v.2.2.2.1),(110,.bool v.2.2.2.2.1)],[.cells [i6 v.2.2.2.2.2.1,.fz Riii v.2.2.2.2.2.2.1],.cells [i6 v.2.2.2.2.2.2.2.1,.fz Riii v.2.2.2.2.2.2.2.2.1],.cells [i6 v.2.2.2.2.2.2.2.2.2.1,i6 v.2.2.2.2.2.2.2.2.2.2.1],.cells [i6 v.2.2.2.2.2.2.2.2.2.2.2.1,.rs 4],.rows Riii v.2.2.2.2.2.2.2.2.2.2.2.2.1,.imap .i64 true Riii v.2.2.2.2.2.2.2.2.2.2.2.2.2.1,.cells [i6 v.2.2.2.2.2.2.2.2.2.2.2.2.2.2.1,.rs 7],.rows Riii v.2.2.2.2.2.2.2.2.2.2.2.2.2.2.2.1,.cells [i6 v.2.2.2.2.2.2.2.2.2.2.2.2.2.2.2.2.1,i6 v.2.2.2.2.2.2.2.2.2.2.2.2.2.2.2.2.2.1,i6 v.2.2.2.2.2.2.2.2.2.2.2.2.2.2.2.2.2.2]]⟩
def q2ni (C:q2kl) (v:q2na):Dt q2ng:=(Dt.ite (decide (v.2.1≥v.1)) (Dt.ret (v.1,v.2.1,v.2.2.1,v.2.2.2.1,(decide (v.2.2.2.2.2.2.2.2.2.2.2.2.2.2.2.2.2.1≥(0:Int))),v.2.2.2.2.2.1,v.2.2.2.2.2.2.1,v.2.2.2.2.2.2.2.1,v.2.2.2.2.2.2.2.2.1,v.2.2.2.2.2.2.2.2.2.1,v.2.2.2.2.2.2.2.2.2.2.1,v.2.2.2.2.2.2.2.2.2.2.2.1,v.2.2.2.2.2.2.2.2.2.2.2.2.1,v.2.2.2.2.2.2.2.2.2.2.2.2.2.1,v.2.2.2.2.2.2.2.2.2.2.2.2.2.2.1,v.2.2.2.2.2.2.2.2.2.2.2.2.2.2.2.1,v.2.2.2.2.2.2.2.2.2.2.2.2.2.2.2.2.1,v.2.2.2.2.2.2.2.2.2.2.2.2.2.2.2.2.2.1,v.2.2.2.2.2.2.2.2.2.2.2.2.2.2.2.2.2.2)) (Dt.ret (v.1,v.2.1,v.2.2.1,v.2.2.2.1,false,v.2.2.2.2.2.1,v.2.2.2.2.2.2.1,v.2.2.2.2.2.2.2.1,v.2.2.2.2.2.2.2.2.1,v.2.2.2.2.2.2.2.2.2.1,v.2.2.2.2.2.2.2.2.2.2.1,v.2.2.2.2.2.2.2.2.2.2.2.1,v.2.2.2.2.2.2.2.2.2.2.2.2.1,v.2.2.2.2.2.2.2.2.2.2.2.2.2.1,v.2.2.2.2.2.2.2.2.2.2.2.2.2.2.1,v.2.2.2.2.2.2.2.2.2.2.2.2.2.2.2.1,v.2.2.2.2.2.2.2.2.2.2.2.2.2.2.2.2.1,v.2.2.2.2.2.2.2.2.2.2.2.2.2.2.2.2.2.1,v.2.2.2.2.2.2.2.2.2.2.2.2.2.2.2.2.2.2)))
theorem q2nj C v:q35i (regO (qea f30) 28) false [(4,(.box [.any,.val Riii])),(5,(.box [.any,.val Riii])),(7,.any),(8,(.box [.any,.own Riii])),(13,.any),(14,.any),(17,(.box [.any,.own Riii])),(18,.any),(19,.any),(86,(.own Riii)),(87,.any),(88,.any),(110,.any)] q2nb q2ni q2nh C v:=rgI (by kernel_rfl)
def q2nk (C:q2kl) (v:q2ng):Dt q2n2:=(Dt.ite (inB v.2.1 (List.length v.2.2.2.2.2.2.2.2.2.2.2.2.2.2.2.1)) (Dt.ite (inB v.2.1 (List.length v.2.2.2.2.2.2.2.2.2.2.2.2.2.2.2.1)) (Dt.ret (v.1,v.2.1,v.2.2.1,v.2.2.2.1,v.2.2.2.2.2.1,v.2.2.2.2.2.2.1,v.2.2.2.2.2.2.2.1,v.2.2.2.2.2.2.2.2.1,v.2.2.2.2.2.2.2.2.2.1,v.2.2.2.2.2.2.2.2.2.2.1,v.2.2.2.2.2.2.2.2.2.2.2.1,v.2.2.2.2.2.2.2.2.2.2.2.2.1,v.2.2.2.2.2.2.2.2.2.2.2.2.2.1,v.2.2.2.2.2.2.2.2.2.2.2.2.2.2.1,(List.set v.2.2.2.2.2.2.2.2.2.2.2.2.2.2.2.1 (v.2.1).toNat ((elt ziii v.2.2.2.2.2.2.2.2.2.2.2.2.2.2.2.1 (v.2.1).toNat).1,(IntKind.wrap .i64 ((elt ziii v.2.2.2.2.2.2.2.2.2.2.2.2.2.2.2.1 (v.2.1).toNat).2.1+v.1)),(elt ziii v.2.2.2.2.2.2.2.2.2.2.2.2.2.2.2.1 (v.2.1).toNat).2.2.1,())),v.2.2.2.2.2.2.2.2.2.2.2.2.2.2.2.2.1,v.2.2.2.2.2.2.2.2.2.2.2.2.2.2.2.2.2.1,v.2.2.2.2.2.2.2.2.2.2.2.2.2.2.2.2.2.2)) Dt.fail) Dt.fail)
theorem q2nl C v:q35i (regO (qea f30) 29) false [(4,(.box [.any,.val Riii])),(5,(.box [.any,.val Riii])),(7,.any),(8,(.box [.any,.own Riii])),(13,.any),(14,.any),(17,(.box [.any,.own Riii])),(18,.any),(19,.any),(86,(.own Riii)),(87,.any),(88,.any)] q2nh q2nk q2n3 C v:=rgI (by kernel_rfl)
abbrev q2nm:Type:=Int×Int×Int×Int×Bool×Int×List Diii×Int×List Diii×Int×Int×Int×List Diii×List (Int×Diii)×Int×List Diii
def q2nn (v:q2nm):St:=⟨[(4,.ptr 0 0),(5,.ptr 1 0),(7,.ptr 2 0),(8,.ptr 3 0),(13,i6 v.1),(14,.mp 5),(17,.ptr 6 0),(18,i6 v.2.1),(86,.rs 7),(87,i6 v.2.2.1),(88,i6 v.2.2.2.1),(128,.bool v.2.2.2.2.1)],[.cells [i6 v.2.2.2.2.2.1,.fz Riii v.2.2.2.2.2.2.1],.cells [i6 v.2.2.2.2.2.2.2.1,.fz Riii v.2.2.2.2.2.2.2.2.1],.cells [i6 v.2.2.2.2.2.2.2.2.2.1,i6 v.2.2.2.2.2.2.2.2.2.2.1],.cells [i6 v.2.2.2.2.2.2.2.2.2.2.2.1,.rs 4],.rows Riii v.2.2.2.2.2.2.2.2.2.2.2.2.1,.imap .i64 true Riii v.2.2.2.2.2.2.2.2.2.2.2.2.2.1,.cells [i6 v.2.2.2.2.2.2.2.2.2.2.2.2.2.2.1,.rs 7],.rows Riii v.2.2.2.2.2.2.2.2.2.2.2.2.2.2.2]⟩
def q2no (C:q2kl) (v:q2n2):Dt q2nm:=(Dt.ite (decide (v.2.1≥v.1)) (Dt.ret (v.1,v.2.1,v.2.2.1,v.2.2.2.1,(decide (v.2.2.2.2.2.2.2.2.2.2.2.2.2.2.2.2.2≥(0:Int))),v.2.2.2.2.1,v.2.2.2.2.2.1,v.2.2.2.2.2.2.1,v.2.2.2.2.2.2.2.1,v.2.2.2.2.2.2.2.2.1,v.2.2.2.2.2.2.2.2.2.1,v.2.2.2.2.2.2.2.2.2.2.1,v.2.2.2.2.2.2.2.2.2.2.2.1,v.2.2.2.2.2.2.2.2.2.2.2.2.1,v.2.2.2.2.2.2.2.2.2.2.2.2.2.1,v.2.2.2.2.2.2.2.2.2.2.2.2.2.2.1)) (Dt.ret (v.1,v.2.1,v.2.2.1,v.2.2.2.1,false,v.2.2.2.2.1,v.2.2.2.2.2.1,v.2.2.2.2.2.2.1,v.2.2.2.2.2.2.2.1,v.2.2.2.2.2.2.2.2.1,v.2.2.2.2.2.2.2.2.2.1,v.2.2.2.2.2.2.2.2.2.2.1,v.2.2.2.2.2.2.2.2.2.2.2.1,v.2.2.2.2.2.2.2.2.2.2.2.2.1,v.2.2.2.2.2.2.2.2.2.2.2.2.2.1,v.2.2.2.2.2.2.2.2.2.2.2.2.2.2.1)))
theorem q2np C v:q35i (regO (qea f30) 30) false [(4,(.box [.any,.val Riii])),(5,(.box [.any,.val Riii])),(7,.any),(8,(.box [.any,.own Riii])),(13,.any),(14,.any),(17,(.box [.any,.own Riii])),(18,.any),(86,(.own Riii)),(87,.any),(88,.any),(128,.any)] q2n3 q2no q2nn C v:=rgI (by kernel_rfl)
def q2nq (C:q2kl) (v:q2nm):Dt q2mu:=(Dt.ite (inB v.2.1 (List.length v.2.2.2.2.2.2.2.2.2.2.2.2.2.2.2)) (Dt.ite (inB v.2.1 (List.length v.2.2.2.2.2.2.2.2.2.2.2.2.2.2.2)) (Dt.ret (v.1,v.2.2.1,v.2.2.2.1,v.2.2.2.2.2.1,v.2.2.2.2.2.2.1,v.2.2.2.2.2.2.2.1,v.2.2.2.2.2.2.2.2.1,v.2.2.2.2.2.2.2.2.2.1,v.2.2.2.2.2.2.2.2.2.2.1,v.2.2.2.2.2.2.2.2.2.2.2.1,v.2.2.2.2.2.2.2.2.2.2.2.2.1,v.2.2.2.2.2.2.2.2.2.2.2.2.2.1,v.2.2.2.2.2.2.2.2.2.2.2.2.2.2.1,(List.set v.2.2.2.2.2.2.2.2.2.2.2.2.2.2.2 (v.2.1).toNat ((elt ziii v.2.2.2.2.2.2.2.2.2.2.2.2.2.2.2 (v.2.1).toNat).1,(elt ziii v.2.2.2.2.2.2.2.2.2.2.2.2.2.2.2 (v.2.1).toNat).2.1,(IntKind.wrap .i64 ((elt ziii v.2.2.2.2.2.2.2.2.2.2.2.2.2.2.2 (v.2.1).toNat).2.2.1+v.1)),())))) Dt.fail) Dt.fail)
theorem q2nr C v:q35i (regO (qea f30) 31) false [(4,(.box [.any,.val Riii])),(5,(.box [.any,.val Riii])),(7,.any),(8,(.box [.any,.own Riii])),(13,.any),(14,.any),(17,(.box [.any,.own Riii])),(86,(.own Riii)),(87,.any),(88,.any)] q2nn q2nq q2mv C v:=rgI (by kernel_rfl)
def q2ns (C:q2kl) (v:q2mu):Dt q2mu:=(Dt.ret (v.1,v.2.1,(IntKind.wrap .i64 (v.2.2.1+(1:Int))),v.2.2.2.1,v.2.2.2.2.1,v.2.2.2.2.2.1,v.2.2.2.2.2.2.1,v.2.2.2.2.2.2.2.1,v.2.2.2.2.2.2.2.2.1,v.2.2.2.2.2.2.2.2.2.1,v.2.2.2.2.2.2.2.2.2.2.1,v.2.2.2.2.2.2.2.2.2.2.2.1,v.2.2.2.2.2.2.2.2.2.2.2.2.1,v.2.2.2.2.2.2.2.2.2.2.2.2.2))
theorem q2nt C v:q35i (regO (qea f30) 32) false [(4,(.box [.any,.val Riii])),(5,(.box [.any,.val Riii])),(7,.any),(8,(.box [.any,.own Riii])),(13,.any),(14,.any),(17,(.box [.any,.own Riii])),(86,(.own Riii)),(87,.any),(88,.any)] q2mv q2ns q2mv C v:=rgI (by kernel_rfl)
def q2nu  (d:Nat) (self2:(Int×Int×Int×Int×List Diii×Int×List Diii×Int×Int×Int×List Diii×List (Int×Diii)×Int×List Diii)→Option q2ki) (z:Int×Int×Int×Int×List Diii×Int×List Diii×Int×Int×Int×List Diii×List (Int×Diii)×Int×List Diii):Option (q2ki) :=
 (q2ns (q2km d) z).eval fun y32 =>
 self2 y32
def q2nv  (d:Nat) (self2:(Int×Int×Int×Int×List Diii×Int×List Diii×Int×Int×Int×List Diii×List (Int×Diii)×Int×List Diii)→Option q2ki) (z:Int×Int×Int×Int×Int×List Diii×Int×List Diii×Int×Int×Int×List Diii×List (Int×Diii)×Int×List Diii×Int×Int×Int):Option (q2ki) :=
 (q2no (q2km d) z).eval fun y30 =>
 bif y30.2.2.2.2.1 then ((q2nq (q2km d) y30).eval fun y31 =>
 q2nu d self2 y31) else (q2nu d self2 (y30.1,y30.2.2.1,y30.2.2.2.1,y30.2.2.2.2.2.1,y30.2.2.2.2.2.2.1,y30.2.2.2.2.2.2.2.1,y30.2.2.2.2.2.2.2.2.1,y30.2.2.2.2.2.2.2.2.2.1,y30.2.2.2.2.2.2.2.2.2.2.1,y30.2.2.2.2.2.2.2.2.2.2.2.1,y30.2.2.2.2.2.2.2.2.2.2.2.2.1,y30.2.2.2.2.2.2.2.2.2.2.2.2.2.1,y30.2.2.2.2.2.2.2.2.2.2.2.2.2.2.1,y30.2.2.2.2.2.2.2.2.2.2.2.2.2.2.2))
abbrev q2nw:Type:=Int×Bool×Int×List Diii×Int×List Diii×Int×Int×Int×List Diii×List (Int×Diii)×Int×List Diii
def q2nx (v:q2nw):St:=⟨[(4,.ptr 0 0),(5,.ptr 1 0),(7,.ptr 2 0),(8,.ptr 3 0),(13,i6 v.1),(14,.mp 5),(17,.ptr 6 0),(164,.bool v.2.1)],[.cells [i6 v.2.2.1,.fz Riii v.2.2.2.1],.cells [i6 v.2.2.2.2.1,.fz Riii v.2.2.2.2.2.1],.cells [i6 v.2.2.2.2.2.2.1,i6 v.2.2.2.2.2.2.2.1],.cells [i6 v.2.2.2.2.2.2.2.2.1,.rs 4],.rows Riii v.2.2.2.2.2.2.2.2.2.1,.imap .i64 true Riii v.2.2.2.2.2.2.2.2.2.2.1,.cells [i6 v.2.2.2.2.2.2.2.2.2.2.2.1,.rs 7],.rows Riii v.2.2.2.2.2.2.2.2.2.2.2.2]⟩
def q2ny (C:q2kl) (v:q2my):Dt q2nw:=(Dt.ite (decide (v.1 > (0:Int))) (Dt.ite (decide (v.1<(List.length v.2.2.2.2.2.2.2.2.2.2.2.2.2.2:Int))) (Dt.ite (inB (IntKind.wrap .i64 (v.1 - (1:Int))) (List.length v.2.2.2.2.2.2.2.2.2.2.2.2.2.2)) (Dt.ite (inB v.1 (List.length v.2.2.2.2.2.2.2.2.2.2.2.2.2.2)) (Dt.ret (v.1,(decide ((elt ziii v.2.2.2.2.2.2.2.2.2.2.2.2.2.2 ((IntKind.wrap .i64 (v.1 - (1:Int)))).toNat).1≥(elt ziii v.2.2.2.2.2.2.2.2.2.2.2.2.2.2 (v.1).toNat).1)),v.2.2.2.2.1,v.2.2.2.2.2.1,v.2.2.2.2.2.2.1,v.2.2.2.2.2.2.2.1,v.2.2.2.2.2.2.2.2.1,v.2.2.2.2.2.2.2.2.2.1,v.2.2.2.2.2.2.2.2.2.2.1,v.2.2.2.2.2.2.2.2.2.2.2.1,v.2.2.2.2.2.2.2.2.2.2.2.2.1,v.2.2.2.2.2.2.2.2.2.2.2.2.2.1,v.2.2.2.2.2.2.2.2.2.2.2.2.2.2)) Dt.fail) Dt.fail) (Dt.ret (v.1,false,v.2.2.2.2.1,v.2.2.2.2.2.1,v.2.2.2.2.2.2.1,v.2.2.2.2.2.2.2.1,v.2.2.2.2.2.2.2.2.1,v.2.2.2.2.2.2.2.2.2.1,v.2.2.2.2.2.2.2.2.2.2.1,v.2.2.2.2.2.2.2.2.2.2.2.1,v.2.2.2.2.2.2.2.2.2.2.2.2.1,v.2.2.2.2.2.2.2.2.2.2.2.2.2.1,v.2.2.2.2.2.2.2.2.2.2.2.2.2.2))) (Dt.ret (v.1,false,v.2.2.2.2.1,v.2.2.2.2.2.1,v.2.2.2.2.2.2.1,v.2.2.2.2.2.2.2.1,v.2.2.2.2.2.2.2.2.1,v.2.2.2.2.2.2.2.2.2.1,v.2.2.2.2.2.2.2.2.2.2.1,v.2.2.2.2.2.2.2.2.2.2.2.1,v.2.2.2.2.2.2.2.2.2.2.2.2.1,v.2.2.2.2.2.2.2.2.2.2.2.2.2.1,v.2.2.2.2.2.2.2.2.2.2.2.2.2.2)))
theorem q2nz C v:q35i (regO (qea f30) 33) true [(4,(.box [.any,.val Riii])),(5,(.box [.any,.val Riii])),(7,.any),(8,(.box [.any,.own Riii])),(13,.any),(14,.any),(17,(.box [.any,.own Riii])),(164,.any)] q2mz q2ny q2nx C v:=rgI (by kernel_rfl)
def q2o0 (C:q2kl) (v:q2nw):Dt q2l2:=(Dt.ret ((32:Int),(0:Int),([]:List Diii)))
theorem q2o1 C v:q35i (regO (qea f30) 34) false [(8,(.box [.any,.own Riii])),(9,.any)] q2nx q2o0 q2l3 C v:=rgI (by kernel_rfl)
abbrev q2o2:Type:=Int×Int×Int×Int×Int×Int×List Diii×List (Int×Diii)×Int×List Diii
def q2o3 (v:q2o2):St:=⟨[(7,.ptr 0 0),(8,.ptr 1 0),(13,i6 v.1),(14,.mp 3),(17,.ptr 4 0),(22,i6 v.2.1),(23,i6 v.2.2.1),(24,.ptr 4 0)],[.cells [i6 v.2.2.2.1,i6 v.2.2.2.2.1],.cells [i6 v.2.2.2.2.2.1,.rs 2],.rows Riii v.2.2.2.2.2.2.1,.imap .i64 true Riii v.2.2.2.2.2.2.2.1,.cells [i6 v.2.2.2.2.2.2.2.2.1,.rs 5],.rows Riii v.2.2.2.2.2.2.2.2.2]⟩
def q2o4 (C:q2kl) (v:q2nw):Dt q2o2:=(Dt.ret (v.1,v.2.2.1,v.2.2.2.2.1,v.2.2.2.2.2.2.1,v.2.2.2.2.2.2.2.1,v.2.2.2.2.2.2.2.2.1,v.2.2.2.2.2.2.2.2.2.1,v.2.2.2.2.2.2.2.2.2.2.1,v.2.2.2.2.2.2.2.2.2.2.2.1,v.2.2.2.2.2.2.2.2.2.2.2.2))
theorem q2o5 C v:q35i (regO (qea f30) 35) true [(7,.any),(8,(.box [.any,.own Riii])),(13,.any),(14,.any),(17,(.box [.any,.own Riii])),(22,.any),(23,.any),(24,(.box [.any,.own Riii]))] q2nx q2o4 q2o3 C v:=rgI (by kernel_rfl)
abbrev q2o6:Type:=Int×Int×Int×Bool×Int×Int×Int×List Diii×List (Int×Diii)×Int×List Diii
def q2o7 (v:q2o6):St:=⟨[(7,.ptr 0 0),(8,.ptr 1 0),(13,i6 v.1),(14,.mp 3),(17,.ptr 4 0),(22,i6 v.2.1),(23,i6 v.2.2.1),(24,.ptr 4 0),(172,.bool v.2.2.2.1)],[.cells [i6 v.2.2.2.2.1,i6 v.2.2.2.2.2.1],.cells [i6 v.2.2.2.2.2.2.1,.rs 2],.rows Riii v.2.2.2.2.2.2.2.1,.imap .i64 true Riii v.2.2.2.2.2.2.2.2.1,.cells [i6 v.2.2.2.2.2.2.2.2.2.1,.rs 5],.rows Riii v.2.2.2.2.2.2.2.2.2.2]⟩
def q2o8 (C:q2kl) (v:q2o2):Dt q2o6:=(Dt.ret (v.1,v.2.1,v.2.2.1,(decide (v.2.2.1≥(0:Int))),v.2.2.2.1,v.2.2.2.2.1,v.2.2.2.2.2.1,v.2.2.2.2.2.2.1,v.2.2.2.2.2.2.2.1,v.2.2.2.2.2.2.2.2.1,v.2.2.2.2.2.2.2.2.2))
theorem q2o9 C v:q35i (regO (qea f30) 36) false [(7,.any),(8,(.box [.any,.own Riii])),(13,.any),(14,.any),(17,(.box [.any,.own Riii])),(22,.any),(23,.any),(24,(.box [.any,.own Riii])),(172,.any)] q2o3 q2o8 q2o7 C v:=rgI (by kernel_rfl)
abbrev q2oa:Type:=Int×Int×Int×Int×Int×List Diii×List (Int×Diii)×Int×List Diii
def q2ob (v:q2oa):St:=⟨[(7,.ptr 0 0),(8,.ptr 1 0),(14,.mp 3),(17,.ptr 4 0),(22,i6 v.1),(23,i6 v.2.1),(24,.ptr 4 0)],[.cells [i6 v.2.2.1,i6 v.2.2.2.1],.cells [i6 v.2.2.2.2.1,.rs 2],.rows Riii v.2.2.2.2.2.1,.imap .i64 true Riii v.2.2.2.2.2.2.1,.cells [i6 v.2.2.2.2.2.2.2.1,.rs 5],.rows Riii v.2.2.2.2.2.2.2.2]⟩
def q2oc (C:q2kl) (v:q2o6):Dt q2oa:=(Dt.ret (v.2.1,(IntKind.wrap .i64 (v.2.2.1+v.1)),v.2.2.2.2.1,v.2.2.2.2.2.1,v.2.2.2.2.2.2.1,v.2.2.2.2.2.2.2.1,v.2.2.2.2.2.2.2.2.1,v.2.2.2.2.2.2.2.2.2.1,v.2.2.2.2.2.2.2.2.2.2))
theorem q2od C v:q35i (regO (qea f30) 37) false [(7,.any),(8,(.box [.any,.own Riii])),(14,.any),(17,(.box [.any,.own Riii])),(22,.any),(23,.any),(24,(.box [.any,.own Riii]))] q2o7 q2oc q2ob C v:=rgI (by kernel_rfl)
abbrev q2oe:Type:=Int×Int×Bool×Int×Int×Int×List Diii×List (Int×Diii)×Int×List Diii
def q2of (v:q2oe):St:=⟨[(7,.ptr 0 0),(8,.ptr 1 0),(14,.mp 3),(17,.ptr 4 0),(22,i6 v.1),(23,i6 v.2.1),(24,.ptr 4 0),(181,.bool v.2.2.1)],[.cells [i6 v.2.2.2.1,i6 v.2.2.2.2.1],.cells [i6 v.2.2.2.2.2.1,.rs 2],.rows Riii v.2.2.2.2.2.2.1,.imap .i64 true Riii v.2.2.2.2.2.2.2.1,.cells [i6 v.2.2.2.2.2.2.2.2.1,.rs 5],.rows Riii v.2.2.2.2.2.2.2.2.2]⟩
def q2og (C:q2kl) (v:q2oa):Dt q2oe:=(Dt.ite (decide (v.1≥(0:Int))) (Dt.ret (v.1,v.2.1,(decide (v.2.1≥(0:Int))),v.2.2.1,v.2.2.2.1,v.2.2.2.2.1,v.2.2.2.2.2.1,v.2.2.2.2.2.2.1,v.2.2.2.2.2.2.2.1,v.2.2.2.2.2.2.2.2)) (Dt.ret (v.1,v.2.1,false,v.2.2.1,v.2.2.2.1,v.2.2.2.2.1,v.2.2.2.2.2.1,v.2.2.2.2.2.2.1,v.2.2.2.2.2.2.2.1,v.2.2.2.2.2.2.2.2)))
theorem q2oh (C:q2kl) (v:q2oa):treg tysT (orc (q2kn C)) 232 (regO (qea f30) 38) false [(7,.any),(8,(.box [.any,.own Riii])),(14,.any),(17,(.box [.any,.own Riii])),(22,.any),(23,.any),(24,(.box [.any,.own Riii])),(181,.any)] (q2ob v) some=(q2og C v).eval fun y=>some (q2of y):=by kernel_rfl
abbrev q2oi:Type:=Int×Int×Bool×Int×Int×Int×List Diii×List (Int×Diii)×Int×List Diii
def q2oj (v:q2oi):St:=⟨[(7,.ptr 0 0),(8,.ptr 1 0),(14,.mp 3),(17,.ptr 4 0),(22,i6 v.1),(23,i6 v.2.1),(24,.ptr 4 0),(25,.bool v.2.2.1)],[.cells [i6 v.2.2.2.1,i6 v.2.2.2.2.1],.cells [i6 v.2.2.2.2.2.1,.rs 2],.rows Riii v.2.2.2.2.2.2.1,.imap .i64 true Riii v.2.2.2.2.2.2.2.1,.cells [i6 v.2.2.2.2.2.2.2.2.1,.rs 5],.rows Riii v.2.2.2.2.2.2.2.2.2]⟩
def q2ok (C:q2kl) (v:q2oe):Dt q2oi:=(Dt.ite (inB v.1 (List.length v.2.2.2.2.2.2.2.2.2)) (Dt.ite (inB v.2.1 (List.length v.2.2.2.2.2.2.2.2.2)) (Dt.bnd (C.2.2.1 (((mget Riii v.2.2.2.2.2.2.2.1 (elt ziii v.2.2.2.2.2.2.2.2.2 (v.1).toNat).1).1,(mget Riii v.2.2.2.2.2.2.2.1 (elt ziii v.2.2.2.2.2.2.2.2.2 (v.1).toNat).1).2.1,(mget Riii v.2.2.2.2.2.2.2.1 (elt ziii v.2.2.2.2.2.2.2.2.2 (v.1).toNat).1).2.2.1,()),((mget Riii v.2.2.2.2.2.2.2.1 (elt ziii v.2.2.2.2.2.2.2.2.2 (v.2.1).toNat).1).1,(mget Riii v.2.2.2.2.2.2.2.1 (elt ziii v.2.2.2.2.2.2.2.2.2 (v.2.1).toNat).1).2.1,(mget Riii v.2.2.2.2.2.2.2.1 (elt ziii v.2.2.2.2.2.2.2.2.2 (v.2.1).toNat).1).2.2.1,()),(v.2.2.2.1,v.2.2.2.2.1,()),())) fun r1=>(Dt.ret (v.1,v.2.1,r1.1,v.2.2.2.1,v.2.2.2.2.1,v.2.2.2.2.2.1,v.2.2.2.2.2.2.1,v.2.2.2.2.2.2.2.1,v.2.2.2.2.2.2.2.2.1,v.2.2.2.2.2.2.2.2.2))) Dt.fail) Dt.fail)
theorem q2ol (C:q2kl) (v:q2oe):treg tysT (orc (q2kn C)) 232 (regO (qea f30) 39) true [(7,.any),(8,(.box [.any,.own Riii])),(14,.any),(17,(.box [.any,.own Riii])),(22,.any),(23,.any),(24,(.box [.any,.own Riii])),(25,.any)] (q2of v) some=(q2ok C v).eval fun y=>some (q2oj y):=by kernel_rfl
abbrev q2om:Type:=Int×Int×Bool×Int×Int×Int×List Diii×List (Int×Diii)×Int×List Diii
def q2on (v:q2om):St:=⟨[(7,.ptr 0 0),(8,.ptr 1 0),(14,.mp 3),(17,.ptr 4 0),(22,i6 v.1),(23,i6 v.2.1),(24,.ptr 4 0),(203,.bool v.2.2.1)],[.cells [i6 v.2.2.2.1,i6 v.2.2.2.2.1],.cells [i6 v.2.2.2.2.2.1,.rs 2],.rows Riii v.2.2.2.2.2.2.1,.imap .i64 true Riii v.2.2.2.2.2.2.2.1,.cells [i6 v.2.2.2.2.2.2.2.2.1,.rs 5],.rows Riii v.2.2.2.2.2.2.2.2.2]⟩
def q2oo (C:q2kl) (v:q2oi):Dt q2om:=(Dt.ret (v.1,v.2.1,v.2.2.1,v.2.2.2.1,v.2.2.2.2.1,v.2.2.2.2.2.1,v.2.2.2.2.2.2.1,v.2.2.2.2.2.2.2.1,v.2.2.2.2.2.2.2.2.1,v.2.2.2.2.2.2.2.2.2))
theorem q2op (C:q2kl) (v:q2oi):treg tysT (orc (q2kn C)) 232 (regO (qea f30) 40) false [(7,.any),(8,(.box [.any,.own Riii])),(14,.any),(17,(.box [.any,.own Riii])),(22,.any),(23,.any),(24,(.box [.any,.own Riii])),(203,.any)] (q2oj v) some=(q2oo C v).eval fun y=>some (q2on y):=by kernel_rfl
abbrev q2oq:Type:=Int×Nat×Int×Int×Int×List Diii×List (Int×Diii)×Int×List Diii
def q2or (v:q2oq):St:=⟨[(7,.ptr 0 0),(8,.ptr 1 0),(14,.mp 3),(17,.ptr 4 0),(23,i6 v.1),(24,.rp 5 v.2.1 3 2)],[.cells [i6 v.2.2.1,i6 v.2.2.2.1],.cells [i6 v.2.2.2.2.1,.rs 2],.rows Riii v.2.2.2.2.2.1,.imap .i64 true Riii v.2.2.2.2.2.2.1,.cells [i6 v.2.2.2.2.2.2.2.1,.rs 5],.rows Riii v.2.2.2.2.2.2.2.2]⟩
def q2os (C:q2kl) (v:q2om):Dt q2oq:=(Dt.ite (inB v.1 (List.length v.2.2.2.2.2.2.2.2.2)) (Dt.ret (v.2.1,(v.1).toNat,v.2.2.2.1,v.2.2.2.2.1,v.2.2.2.2.2.1,v.2.2.2.2.2.2.1,v.2.2.2.2.2.2.2.1,v.1,v.2.2.2.2.2.2.2.2.2)) Dt.fail)
theorem q2ot (C:q2kl) (v:q2om):treg tysT (orc (q2kn C)) 232 (regO (qea f30) 41) true [(7,.any),(8,(.box [.any,.own Riii])),(14,.any),(17,(.box [.any,.own Riii])),(23,.any),(24,.any)] (q2on v) some=(q2os C v).eval fun y=>some (q2or y):=by kernel_rfl
abbrev q2ou:Type:=Int×Int×Nat×Int×Int×Int×List Diii×List (Int×Diii)×Int×List Diii
def q2ov (v:q2ou):St:=⟨[(7,.ptr 0 0),(8,.ptr 1 0),(14,.mp 3),(17,.ptr 4 0),(22,i6 v.1),(23,i6 v.2.1),(24,.rp 5 v.2.2.1 3 2)],[.cells [i6 v.2.2.2.1,i6 v.2.2.2.2.1],.cells [i6 v.2.2.2.2.2.1,.rs 2],.rows Riii v.2.2.2.2.2.2.1,.imap .i64 true Riii v.2.2.2.2.2.2.2.1,.cells [i6 v.2.2.2.2.2.2.2.2.1,.rs 5],.rows Riii v.2.2.2.2.2.2.2.2.2]⟩
def q2ow (C:q2kl) (v:q2oq):Dt q2ou:=(Dt.ret ((elt ziii v.2.2.2.2.2.2.2.2 v.2.1).2.2.1,v.1,v.2.1,v.2.2.1,v.2.2.2.1,v.2.2.2.2.1,v.2.2.2.2.2.1,v.2.2.2.2.2.2.1,v.2.2.2.2.2.2.2.1,v.2.2.2.2.2.2.2.2))
theorem q2ox (C:q2kl) (v:q2oq):treg tysT (orc (q2kn C)) 232 (regO (qea f30) 42) false [(7,.any),(8,(.box [.any,.own Riii])),(14,.any),(17,(.box [.any,.own Riii])),(22,.any),(23,.any),(24,.any)] (q2or v) some=(q2ow C v).eval fun y=>some (q2ov y):=by kernel_rfl
abbrev q2oy:Type:=Int×Nat×Int×Int×Int×List Diii×List (Int×Diii)×Int×List Diii
def q2oz (v:q2oy):St:=⟨[(7,.ptr 0 0),(8,.ptr 1 0),(14,.mp 3),(17,.ptr 4 0),(22,i6 v.1),(24,.rp 5 v.2.1 3 1)],[.cells [i6 v.2.2.1,i6 v.2.2.2.1],.cells [i6 v.2.2.2.2.1,.rs 2],.rows Riii v.2.2.2.2.2.1,.imap .i64 true Riii v.2.2.2.2.2.2.1,.cells [i6 v.2.2.2.2.2.2.2.1,.rs 5],.rows Riii v.2.2.2.2.2.2.2.2]⟩
def q2p0 (C:q2kl) (v:q2om):Dt q2oy:=(Dt.ite (inB v.2.1 (List.length v.2.2.2.2.2.2.2.2.2)) (Dt.ret (v.1,(v.2.1).toNat,v.2.2.2.1,v.2.2.2.2.1,v.2.2.2.2.2.1,v.2.2.2.2.2.2.1,v.2.2.2.2.2.2.2.1,v.2.1,v.2.2.2.2.2.2.2.2.2)) Dt.fail)
theorem q2p1 (C:q2kl) (v:q2om):treg tysT (orc (q2kn C)) 232 (regO (qea f30) 43) true [(7,.any),(8,(.box [.any,.own Riii])),(14,.any),(17,(.box [.any,.own Riii])),(22,.any),(24,.any)] (q2on v) some=(q2p0 C v).eval fun y=>some (q2oz y):=by kernel_rfl
abbrev q2p2:Type:=Int×Int×Nat×Int×Int×Int×List Diii×List (Int×Diii)×Int×List Diii
def q2p3 (v:q2p2):St:=⟨[(7,.ptr 0 0),(8,.ptr 1 0),(14,.mp 3),(17,.ptr 4 0),(22,i6 v.1),(23,i6 v.2.1),(24,.rp 5 v.2.2.1 3 1)],[.cells [i6 v.2.2.2.1,i6 v.2.2.2.2.1],.cells [i6 v.2.2.2.2.2.1,.rs 2],.rows Riii v.2.2.2.2.2.2.1,.imap .i64 true Riii v.2.2.2.2.2.2.2.1,.cells [i6 v.2.2.2.2.2.2.2.2.1,.rs 5],.rows Riii v.2.2.2.2.2.2.2.2.2]⟩
def q2p4 (C:q2kl) (v:q2oy):Dt q2p2:=(Dt.ret (v.1,(elt ziii v.2.2.2.2.2.2.2.2 v.2.1).2.1,v.2.1,v.2.2.1,v.2.2.2.1,v.2.2.2.2.1,v.2.2.2.2.2.1,v.2.2.2.2.2.2.1,v.2.2.2.2.2.2.2.1,v.2.2.2.2.2.2.2.2))
theorem q2p5 (C:q2kl) (v:q2oy):treg tysT (orc (q2kn C)) 232 (regO (qea f30) 44) false [(7,.any),(8,(.box [.any,.own Riii])),(14,.any),(17,(.box [.any,.own Riii])),(22,.any),(23,.any),(24,.any)] (q2oz v) some=(q2p4 C v).eval fun y=>some (q2p3 y):=by kernel_rfl
abbrev q2p6:Type:=Int×List Diii×Int×List Diii
def q2p7 (v:q2p6):St:=⟨[(8,.ptr 0 0),(17,.ptr 2 0)],[.cells [i6 v.1,.rs 1],.rows Riii v.2.1,.cells [i6 v.2.2.1,.rs 3],.rows Riii v.2.2.2]⟩
def q2p8 (C:q2kl) (v:q2oe):Dt q2p6:=(Dt.ret (v.2.2.2.2.2.1,v.2.2.2.2.2.2.1,(tmax v.1 v.2.1),v.2.2.2.2.2.2.2.2.2))
theorem q2p9 (C:q2kl) (v:q2oe):treg tysT (orc (q2kn C)) 232 (regO (qea f30) 45) false [(8,(.box [.any,.own Riii])),(17,(.box [.any,.own Riii]))] (q2of v) some=(q2p8 C v).eval fun y=>some (q2p7 y):=by kernel_rfl
def q2pa (C:q2kl) (v:q2p6):Dt q2l2:=(Dt.ret ((0:Int),v.2.2.1,v.2.2.2))
theorem q2pb (C:q2kl) (v:q2p6):treg tysT (orc (q2kn C)) 232 (regO (qea f30) 46) false [(8,(.box [.any,.own Riii])),(9,.any)] (q2p7 v) some=(q2pa C v).eval fun y=>some (q2l3 y):=by kernel_rfl
def q2pc (d:Nat) (self6:((Int×Int×Int×Int×Int×List Diii×List (Int×Diii)×Int×List Diii) ⊕ (Int×Int×Nat×Int×Int×Int×List Diii×List (Int×Diii)×Int×List Diii) ⊕ (Int×Int×Nat×Int×Int×Int×List Diii×List (Int×Diii)×Int×List Diii))→Option q2ki) (x6:Int×Int×Int×Int×Int×List Diii×List (Int×Diii)×Int×List Diii):Option q2ki :=
 (q2og (q2km d) x6).eval fun y38a =>
 bif y38a.2.2.1 then ((q2ok (q2km d) y38a).eval fun y39a =>
 (q2oo (q2km d) y39a).eval fun y40a =>
 bif y40a.2.2.1 then ((q2os (q2km d) y40a).eval fun y41a =>
 (q2ow (q2km d) y41a).eval fun y42a =>
 self6 (.inr (.inl y42a))) else ((q2p0 (q2km d) y40a).eval fun y43a =>
 (q2p4 (q2km d) y43a).eval fun y44a =>
 self6 (.inr (.inr y44a)))) else ((q2p8 (q2km d) y38a).eval fun y45a =>
 (q2pa (q2km d) y45a).eval fun y46a =>
 some (y46a.2.1,y46a.2.2,y46a.1))
abbrev q2pd:Type:=Int×Int×Nat×Bool×Int×Int×Int×List Diii×List (Int×Diii)×Int×List Diii
def q2pe (v:q2pd):St:=⟨[(7,.ptr 0 0),(8,.ptr 1 0),(14,.mp 3),(17,.ptr 4 0),(22,i6 v.1),(23,i6 v.2.1),(24,.rp 5 v.2.2.1 3 2),(181,.bool v.2.2.2.1)],[.cells [i6 v.2.2.2.2.1,i6 v.2.2.2.2.2.1],.cells [i6 v.2.2.2.2.2.2.1,.rs 2],.rows Riii v.2.2.2.2.2.2.2.1,.imap .i64 true Riii v.2.2.2.2.2.2.2.2.1,.cells [i6 v.2.2.2.2.2.2.2.2.2.1,.rs 5],.rows Riii v.2.2.2.2.2.2.2.2.2.2]⟩
def q2pf (C:q2kl) (v:q2ou):Dt q2pd:=(Dt.ite (decide (v.1≥(0:Int))) (Dt.ret (v.1,v.2.1,v.2.2.1,(decide (v.2.1≥(0:Int))),v.2.2.2.1,v.2.2.2.2.1,v.2.2.2.2.2.1,v.2.2.2.2.2.2.1,v.2.2.2.2.2.2.2.1,v.2.2.2.2.2.2.2.2.1,v.2.2.2.2.2.2.2.2.2)) (Dt.ret (v.1,v.2.1,v.2.2.1,false,v.2.2.2.1,v.2.2.2.2.1,v.2.2.2.2.2.1,v.2.2.2.2.2.2.1,v.2.2.2.2.2.2.2.1,v.2.2.2.2.2.2.2.2.1,v.2.2.2.2.2.2.2.2.2)))
theorem q2pg (C:q2kl) (v:q2ou):treg tysT (orc (q2kn C)) 232 (regO (qea f30) 38) false [(7,.any),(8,(.box [.any,.own Riii])),(14,.any),(17,(.box [.any,.own Riii])),(22,.any),(23,.any),(24,.any),(181,.any)] (q2ov v) some=(q2pf C v).eval fun y=>some (q2pe y):=by kernel_rfl
abbrev q2ph:Type:=Int×Int×Nat×Bool×Int×Int×Int×List Diii×List (Int×Diii)×Int×List Diii
def q2pi (v:q2ph):St:=⟨[(7,.ptr 0 0),(8,.ptr 1 0),(14,.mp 3),(17,.ptr 4 0),(22,i6 v.1),(23,i6 v.2.1),(24,.rp 5 v.2.2.1 3 2),(25,.bool v.2.2.2.1)],[.cells [i6 v.2.2.2.2.1,i6 v.2.2.2.2.2.1],.cells [i6 v.2.2.2.2.2.2.1,.rs 2],.rows Riii v.2.2.2.2.2.2.2.1,.imap .i64 true Riii v.2.2.2.2.2.2.2.2.1,.cells [i6 v.2.2.2.2.2.2.2.2.2.1,.rs 5],.rows Riii v.2.2.2.2.2.2.2.2.2.2]⟩
def q2pj (C:q2kl) (v:q2pd):Dt q2ph:=(Dt.ite (inB v.1 (List.length v.2.2.2.2.2.2.2.2.2.2)) (Dt.ite (inB v.2.1 (List.length v.2.2.2.2.2.2.2.2.2.2)) (Dt.bnd (C.2.2.1 (((mget Riii v.2.2.2.2.2.2.2.2.1 (elt ziii v.2.2.2.2.2.2.2.2.2.2 (v.1).toNat).1).1,(mget Riii v.2.2.2.2.2.2.2.2.1 (elt ziii v.2.2.2.2.2.2.2.2.2.2 (v.1).toNat).1).2.1,(mget Riii v.2.2.2.2.2.2.2.2.1 (elt ziii v.2.2.2.2.2.2.2.2.2.2 (v.1).toNat).1).2.2.1,()),((mget Riii v.2.2.2.2.2.2.2.2.1 (elt ziii v.2.2.2.2.2.2.2.2.2.2 (v.2.1).toNat).1).1,(mget Riii v.2.2.2.2.2.2.2.2.1 (elt ziii v.2.2.2.2.2.2.2.2.2.2 (v.2.1).toNat).1).2.1,(mget Riii v.2.2.2.2.2.2.2.2.1 (elt ziii v.2.2.2.2.2.2.2.2.2.2 (v.2.1).toNat).1).2.2.1,()),(v.2.2.2.2.1,v.2.2.2.2.2.1,()),())) fun r1=>(Dt.ret (v.1,v.2.1,v.2.2.1,r1.1,v.2.2.2.2.1,v.2.2.2.2.2.1,v.2.2.2.2.2.2.1,v.2.2.2.2.2.2.2.1,v.2.2.2.2.2.2.2.2.1,v.2.2.2.2.2.2.2.2.2.1,v.2.2.2.2.2.2.2.2.2.2))) Dt.fail) Dt.fail)
theorem q2pk (C:q2kl) (v:q2pd):treg tysT (orc (q2kn C)) 232 (regO (qea f30) 39) true [(7,.any),(8,(.box [.any,.own Riii])),(14,.any),(17,(.box [.any,.own Riii])),(22,.any),(23,.any),(24,.any),(25,.any)] (q2pe v) some=(q2pj C v).eval fun y=>some (q2pi y):=by kernel_rfl
abbrev q2pl:Type:=Int×Int×Nat×Bool×Int×Int×Int×List Diii×List (Int×Diii)×Int×List Diii
def q2pm (v:q2pl):St:=⟨[(7,.ptr 0 0),(8,.ptr 1 0),(14,.mp 3),(17,.ptr 4 0),(22,i6 v.1),(23,i6 v.2.1),(24,.rp 5 v.2.2.1 3 2),(203,.bool v.2.2.2.1)],[.cells [i6 v.2.2.2.2.1,i6 v.2.2.2.2.2.1],.cells [i6 v.2.2.2.2.2.2.1,.rs 2],.rows Riii v.2.2.2.2.2.2.2.1,.imap .i64 true Riii v.2.2.2.2.2.2.2.2.1,.cells [i6 v.2.2.2.2.2.2.2.2.2.1,.rs 5],.rows Riii v.2.2.2.2.2.2.2.2.2.2]⟩
def q2pn (C:q2kl) (v:q2ph):Dt q2pl:=(Dt.ret (v.1,v.2.1,v.2.2.1,v.2.2.2.1,v.2.2.2.2.1,v.2.2.2.2.2.1,v.2.2.2.2.2.2.1,v.2.2.2.2.2.2.2.1,v.2.2.2.2.2.2.2.2.1,v.2.2.2.2.2.2.2.2.2.1,v.2.2.2.2.2.2.2.2.2.2))
theorem q2po (C:q2kl) (v:q2ph):treg tysT (orc (q2kn C)) 232 (regO (qea f30) 40) false [(7,.any),(8,(.box [.any,.own Riii])),(14,.any),(17,(.box [.any,.own Riii])),(22,.any),(23,.any),(24,.any),(203,.any)] (q2pi v) some=(q2pn C v).eval fun y=>some (q2pm y):=by kernel_rfl
def q2pp (C:q2kl) (v:q2pl):Dt q2oq:=(Dt.ite (inB v.1 (List.length v.2.2.2.2.2.2.2.2.2.2)) (Dt.ret (v.2.1,(v.1).toNat,v.2.2.2.2.1,v.2.2.2.2.2.1,v.2.2.2.2.2.2.1,v.2.2.2.2.2.2.2.1,v.2.2.2.2.2.2.2.2.1,v.2.2.2.2.2.2.2.2.2.1,(List.set v.2.2.2.2.2.2.2.2.2.2 v.2.2.1 ((elt ziii v.2.2.2.2.2.2.2.2.2.2 v.2.2.1).1,(elt ziii v.2.2.2.2.2.2.2.2.2.2 v.2.2.1).2.1,v.1,())))) Dt.fail)
theorem q2pq (C:q2kl) (v:q2pl):treg tysT (orc (q2kn C)) 232 (regO (qea f30) 41) true [(7,.any),(8,(.box [.any,.own Riii])),(14,.any),(17,(.box [.any,.own Riii])),(23,.any),(24,.any)] (q2pm v) some=(q2pp C v).eval fun y=>some (q2or y):=by kernel_rfl
def q2pr (C:q2kl) (v:q2oq):Dt q2ou:=(Dt.ret ((elt ziii v.2.2.2.2.2.2.2.2 v.2.1).2.2.1,v.1,v.2.1,v.2.2.1,v.2.2.2.1,v.2.2.2.2.1,v.2.2.2.2.2.1,v.2.2.2.2.2.2.1,v.2.2.2.2.2.2.2.1,v.2.2.2.2.2.2.2.2))
theorem q2ps (C:q2kl) (v:q2oq):treg tysT (orc (q2kn C)) 232 (regO (qea f30) 42) false [(7,.any),(8,(.box [.any,.own Riii])),(14,.any),(17,(.box [.any,.own Riii])),(22,.any),(23,.any),(24,.any)] (q2or v) some=(q2pr C v).eval fun y=>some (q2ov y):=by kernel_rfl
def q2pt (C:q2kl) (v:q2pl):Dt q2oy:=(Dt.ite (inB v.2.1 (List.length v.2.2.2.2.2.2.2.2.2.2)) (Dt.ret (v.1,(v.2.1).toNat,v.2.2.2.2.1,v.2.2.2.2.2.1,v.2.2.2.2.2.2.1,v.2.2.2.2.2.2.2.1,v.2.2.2.2.2.2.2.2.1,v.2.2.2.2.2.2.2.2.2.1,(List.set v.2.2.2.2.2.2.2.2.2.2 v.2.2.1 ((elt ziii v.2.2.2.2.2.2.2.2.2.2 v.2.2.1).1,(elt ziii v.2.2.2.2.2.2.2.2.2.2 v.2.2.1).2.1,v.2.1,())))) Dt.fail)
theorem q2pu (C:q2kl) (v:q2pl):treg tysT (orc (q2kn C)) 232 (regO (qea f30) 43) true [(7,.any),(8,(.box [.any,.own Riii])),(14,.any),(17,(.box [.any,.own Riii])),(22,.any),(24,.any)] (q2pm v) some=(q2pt C v).eval fun y=>some (q2oz y):=by kernel_rfl
def q2pv (C:q2kl) (v:q2oy):Dt q2p2:=(Dt.ret (v.1,(elt ziii v.2.2.2.2.2.2.2.2 v.2.1).2.1,v.2.1,v.2.2.1,v.2.2.2.1,v.2.2.2.2.1,v.2.2.2.2.2.1,v.2.2.2.2.2.2.1,v.2.2.2.2.2.2.2.1,v.2.2.2.2.2.2.2.2))
theorem q2pw (C:q2kl) (v:q2oy):treg tysT (orc (q2kn C)) 232 (regO (qea f30) 44) false [(7,.any),(8,(.box [.any,.own Riii])),(14,.any),(17,(.box [.any,.own Riii])),(22,.any),(23,.any),(24,.any)] (q2oz v) some=(q2pv C v).eval fun y=>some (q2p3 y):=by kernel_rfl
def q2px (C:q2kl) (v:q2pd):Dt q2p6:=(Dt.ret (v.2.2.2.2.2.2.1,v.2.2.2.2.2.2.2.1,v.2.2.2.2.2.2.2.2.2.1,(List.set v.2.2.2.2.2.2.2.2.2.2 v.2.2.1 ((elt ziii v.2.2.2.2.2.2.2.2.2.2 v.2.2.1).1,(elt ziii v.2.2.2.2.2.2.2.2.2.2 v.2.2.1).2.1,(tmax v.1 v.2.1),()))))
theorem q2py (C:q2kl) (v:q2pd):treg tysT (orc (q2kn C)) 232 (regO (qea f30) 45) false [(8,(.box [.any,.own Riii])),(17,(.box [.any,.own Riii]))] (q2pe v) some=(q2px C v).eval fun y=>some (q2p7 y):=by kernel_rfl
def q2pz (C:q2kl) (v:q2p6):Dt q2l2:=(Dt.ret ((0:Int),v.2.2.1,v.2.2.2))
theorem q2q0 (C:q2kl) (v:q2p6):treg tysT (orc (q2kn C)) 232 (regO (qea f30) 46) false [(8,(.box [.any,.own Riii])),(9,.any)] (q2p7 v) some=(q2pz C v).eval fun y=>some (q2l3 y):=by kernel_rfl
def q2q1 (d:Nat) (self6:((Int×Int×Int×Int×Int×List Diii×List (Int×Diii)×Int×List Diii) ⊕ (Int×Int×Nat×Int×Int×Int×List Diii×List (Int×Diii)×Int×List Diii) ⊕ (Int×Int×Nat×Int×Int×Int×List Diii×List (Int×Diii)×Int×List Diii))→Option q2ki) (x6:Int×Int×Nat×Int×Int×Int×List Diii×List (Int×Diii)×Int×List Diii):Option q2ki :=
 (q2pf (q2km d) x6).eval fun y38b =>
 bif y38b.2.2.2.1 then ((q2pj (q2km d) y38b).eval fun y39b =>
 (q2pn (q2km d) y39b).eval fun y40b =>
 bif y40b.2.2.2.1 then ((q2pp (q2km d) y40b).eval fun y41b =>
 (q2pr (q2km d) y41b).eval fun y42b =>
 self6 (.inr (.inl y42b))) else ((q2pt (q2km d) y40b).eval fun y43b =>
 (q2pv (q2km d) y43b).eval fun y44b =>
 self6 (.inr (.inr y44b)))) else ((q2px (q2km d) y38b).eval fun y45b =>
 (q2pz (q2km d) y45b).eval fun y46b =>
 some (y46b.2.1,y46b.2.2,y46b.1))
abbrev q2q2:Type:=Int×Int×Nat×Bool×Int×Int×Int×List Diii×List (Int×Diii)×Int×List Diii
def q2q3 (v:q2q2):St:=⟨[(7,.ptr 0 0),(8,.ptr 1 0),(14,.mp 3),(17,.ptr 4 0),(22,i6 v.1),(23,i6 v.2.1),(24,.rp 5 v.2.2.1 3 1),(181,.bool v.2.2.2.1)],[.cells [i6 v.2.2.2.2.1,i6 v.2.2.2.2.2.1],.cells [i6 v.2.2.2.2.2.2.1,.rs 2],.rows Riii v.2.2.2.2.2.2.2.1,.imap .i64 true Riii v.2.2.2.2.2.2.2.2.1,.cells [i6 v.2.2.2.2.2.2.2.2.2.1,.rs 5],.rows Riii v.2.2.2.2.2.2.2.2.2.2]⟩
def q2q4 (C:q2kl) (v:q2p2):Dt q2q2:=(Dt.ite (decide (v.1≥(0:Int))) (Dt.ret (v.1,v.2.1,v.2.2.1,(decide (v.2.1≥(0:Int))),v.2.2.2.1,v.2.2.2.2.1,v.2.2.2.2.2.1,v.2.2.2.2.2.2.1,v.2.2.2.2.2.2.2.1,v.2.2.2.2.2.2.2.2.1,v.2.2.2.2.2.2.2.2.2)) (Dt.ret (v.1,v.2.1,v.2.2.1,false,v.2.2.2.1,v.2.2.2.2.1,v.2.2.2.2.2.1,v.2.2.2.2.2.2.1,v.2.2.2.2.2.2.2.1,v.2.2.2.2.2.2.2.2.1,v.2.2.2.2.2.2.2.2.2)))
theorem q2q5 (C:q2kl) (v:q2p2):treg tysT (orc (q2kn C)) 232 (regO (qea f30) 38) false [(7,.any),(8,(.box [.any,.own Riii])),(14,.any),(17,(.box [.any,.own Riii])),(22,.any),(23,.any),(24,.any),(181,.any)] (q2p3 v) some=(q2q4 C v).eval fun y=>some (q2q3 y):=by kernel_rfl
abbrev q2q6:Type:=Int×Int×Nat×Bool×Int×Int×Int×List Diii×List (Int×Diii)×Int×List Diii
def q2q7 (v:q2q6):St:=⟨[(7,.ptr 0 0),(8,.ptr 1 0),(14,.mp 3),(17,.ptr 4 0),(22,i6 v.1),(23,i6 v.2.1),(24,.rp 5 v.2.2.1 3 1),(25,.bool v.2.2.2.1)],[.cells [i6 v.2.2.2.2.1,i6 v.2.2.2.2.2.1],.cells [i6 v.2.2.2.2.2.2.1,.rs 2],.rows Riii v.2.2.2.2.2.2.2.1,.imap .i64 true Riii v.2.2.2.2.2.2.2.2.1,.cells [i6 v.2.2.2.2.2.2.2.2.2.1,.rs 5],.rows Riii v.2.2.2.2.2.2.2.2.2.2]⟩
def q2q8 (C:q2kl) (v:q2q2):Dt q2q6:=(Dt.ite (inB v.1 (List.length v.2.2.2.2.2.2.2.2.2.2)) (Dt.ite (inB v.2.1 (List.length v.2.2.2.2.2.2.2.2.2.2)) (Dt.bnd (C.2.2.1 (((mget Riii v.2.2.2.2.2.2.2.2.1 (elt ziii v.2.2.2.2.2.2.2.2.2.2 (v.1).toNat).1).1,(mget Riii v.2.2.2.2.2.2.2.2.1 (elt ziii v.2.2.2.2.2.2.2.2.2.2 (v.1).toNat).1).2.1,(mget Riii v.2.2.2.2.2.2.2.2.1 (elt ziii v.2.2.2.2.2.2.2.2.2.2 (v.1).toNat).1).2.2.1,()),((mget Riii v.2.2.2.2.2.2.2.2.1 (elt ziii v.2.2.2.2.2.2.2.2.2.2 (v.2.1).toNat).1).1,(mget Riii v.2.2.2.2.2.2.2.2.1 (elt ziii v.2.2.2.2.2.2.2.2.2.2 (v.2.1).toNat).1).2.1,(mget Riii v.2.2.2.2.2.2.2.2.1 (elt ziii v.2.2.2.2.2.2.2.2.2.2 (v.2.1).toNat).1).2.2.1,()),(v.2.2.2.2.1,v.2.2.2.2.2.1,()),())) fun r1=>(Dt.ret (v.1,v.2.1,v.2.2.1,r1.1,v.2.2.2.2.1,v.2.2.2.2.2.1,v.2.2.2.2.2.2.1,v.2.2.2.2.2.2.2.1,v.2.2.2.2.2.2.2.2.1,v.2.2.2.2.2.2.2.2.2.1,v.2.2.2.2.2.2.2.2.2.2))) Dt.fail) Dt.fail)
theorem q2q9 (C:q2kl) (v:q2q2):treg tysT (orc (q2kn C)) 232 (regO (qea f30) 39) true [(7,.any),(8,(.box [.any,.own Riii])),(14,.any),(17,(.box [.any,.own Riii])),(22,.any),(23,.any),(24,.any),(25,.any)] (q2q3 v) some=(q2q8 C v).eval fun y=>some (q2q7 y):=by kernel_rfl
abbrev q2qa:Type:=Int×Int×Nat×Bool×Int×Int×Int×List Diii×List (Int×Diii)×Int×List Diii
def q2qb (v:q2qa):St:=⟨[(7,.ptr 0 0),(8,.ptr 1 0),(14,.mp 3),(17,.ptr 4 0),(22,i6 v.1),(23,i6 v.2.1),(24,.rp 5 v.2.2.1 3 1),(203,.bool v.2.2.2.1)],[.cells [i6 v.2.2.2.2.1,i6 v.2.2.2.2.2.1],.cells [i6 v.2.2.2.2.2.2.1,.rs 2],.rows Riii v.2.2.2.2.2.2.2.1,.imap .i64 true Riii v.2.2.2.2.2.2.2.2.1,.cells [i6 v.2.2.2.2.2.2.2.2.2.1,.rs 5],.rows Riii v.2.2.2.2.2.2.2.2.2.2]⟩
def q2qc (C:q2kl) (v:q2q6):Dt q2qa:=(Dt.ret (v.1,v.2.1,v.2.2.1,v.2.2.2.1,v.2.2.2.2.1,v.2.2.2.2.2.1,v.2.2.2.2.2.2.1,v.2.2.2.2.2.2.2.1,v.2.2.2.2.2.2.2.2.1,v.2.2.2.2.2.2.2.2.2.1,v.2.2.2.2.2.2.2.2.2.2))
theorem q2qd (C:q2kl) (v:q2q6):treg tysT (orc (q2kn C)) 232 (regO (qea f30) 40) false [(7,.any),(8,(.box [.any,.own Riii])),(14,.any),(17,(.box [.any,.own Riii])),(22,.any),(23,.any),(24,.any),(203,.any)] (q2q7 v) some=(q2qc C v).eval fun y=>some (q2qb y):=by kernel_rfl
def q2qe (C:q2kl) (v:q2qa):Dt q2oq:=(Dt.ite (inB v.1 (List.length v.2.2.2.2.2.2.2.2.2.2)) (Dt.ret (v.2.1,(v.1).toNat,v.2.2.2.2.1,v.2.2.2.2.2.1,v.2.2.2.2.2.2.1,v.2.2.2.2.2.2.2.1,v.2.2.2.2.2.2.2.2.1,v.2.2.2.2.2.2.2.2.2.1,(List.set v.2.2.2.2.2.2.2.2.2.2 v.2.2.1 ((elt ziii v.2.2.2.2.2.2.2.2.2.2 v.2.2.1).1,v.1,(elt ziii v.2.2.2.2.2.2.2.2.2.2 v.2.2.1).2.2.1,())))) Dt.fail)
theorem q2qf (C:q2kl) (v:q2qa):treg tysT (orc (q2kn C)) 232 (regO (qea f30) 41) true [(7,.any),(8,(.box [.any,.own Riii])),(14,.any),(17,(.box [.any,.own Riii])),(23,.any),(24,.any)] (q2qb v) some=(q2qe C v).eval fun y=>some (q2or y):=by kernel_rfl
def q2qg (C:q2kl) (v:q2oq):Dt q2ou:=(Dt.ret ((elt ziii v.2.2.2.2.2.2.2.2 v.2.1).2.2.1,v.1,v.2.1,v.2.2.1,v.2.2.2.1,v.2.2.2.2.1,v.2.2.2.2.2.1,v.2.2.2.2.2.2.1,v.2.2.2.2.2.2.2.1,v.2.2.2.2.2.2.2.2))
theorem q2qh (C:q2kl) (v:q2oq):treg tysT (orc (q2kn C)) 232 (regO (qea f30) 42) false [(7,.any),(8,(.box [.any,.own Riii])),(14,.any),(17,(.box [.any,.own Riii])),(22,.any),(23,.any),(24,.any)] (q2or v) some=(q2qg C v).eval fun y=>some (q2ov y):=by kernel_rfl
def q2qi (C:q2kl) (v:q2qa):Dt q2oy:=(Dt.ite (inB v.2.1 (List.length v.2.2.2.2.2.2.2.2.2.2)) (Dt.ret (v.1,(v.2.1).toNat,v.2.2.2.2.1,v.2.2.2.2.2.1,v.2.2.2.2.2.2.1,v.2.2.2.2.2.2.2.1,v.2.2.2.2.2.2.2.2.1,v.2.2.2.2.2.2.2.2.2.1,(List.set v.2.2.2.2.2.2.2.2.2.2 v.2.2.1 ((elt ziii v.2.2.2.2.2.2.2.2.2.2 v.2.2.1).1,v.2.1,(elt ziii v.2.2.2.2.2.2.2.2.2.2 v.2.2.1).2.2.1,())))) Dt.fail)
theorem q2qj (C:q2kl) (v:q2qa):treg tysT (orc (q2kn C)) 232 (regO (qea f30) 43) true [(7,.any),(8,(.box [.any,.own Riii])),(14,.any),(17,(.box [.any,.own Riii])),(22,.any),(24,.any)] (q2qb v) some=(q2qi C v).eval fun y=>some (q2oz y):=by kernel_rfl
def q2qk (C:q2kl) (v:q2oy):Dt q2p2:=(Dt.ret (v.1,(elt ziii v.2.2.2.2.2.2.2.2 v.2.1).2.1,v.2.1,v.2.2.1,v.2.2.2.1,v.2.2.2.2.1,v.2.2.2.2.2.1,v.2.2.2.2.2.2.1,v.2.2.2.2.2.2.2.1,v.2.2.2.2.2.2.2.2))
theorem q2ql (C:q2kl) (v:q2oy):treg tysT (orc (q2kn C)) 232 (regO (qea f30) 44) false [(7,.any),(8,(.box [.any,.own Riii])),(14,.any),(17,(.box [.any,.own Riii])),(22,.any),(23,.any),(24,.any)] (q2oz v) some=(q2qk C v).eval fun y=>some (q2p3 y):=by kernel_rfl
def q2qm (C:q2kl) (v:q2q2):Dt q2p6:=(Dt.ret (v.2.2.2.2.2.2.1,v.2.2.2.2.2.2.2.1,v.2.2.2.2.2.2.2.2.2.1,(List.set v.2.2.2.2.2.2.2.2.2.2 v.2.2.1 ((elt ziii v.2.2.2.2.2.2.2.2.2.2 v.2.2.1).1,(tmax v.1 v.2.1),(elt ziii v.2.2.2.2.2.2.2.2.2.2 v.2.2.1).2.2.1,()))))
theorem q2qn (C:q2kl) (v:q2q2):treg tysT (orc (q2kn C)) 232 (regO (qea f30) 45) false [(8,(.box [.any,.own Riii])),(17,(.box [.any,.own Riii]))] (q2q3 v) some=(q2qm C v).eval fun y=>some (q2p7 y):=by kernel_rfl
def q2qo (C:q2kl) (v:q2p6):Dt q2l2:=(Dt.ret ((0:Int),v.2.2.1,v.2.2.2))
theorem q2qp (C:q2kl) (v:q2p6):treg tysT (orc (q2kn C)) 232 (regO (qea f30) 46) false [(8,(.box [.any,.own Riii])),(9,.any)] (q2p7 v) some=(q2qo C v).eval fun y=>some (q2l3 y):=by kernel_rfl
def q2qq (d:Nat) (self6:((Int×Int×Int×Int×Int×List Diii×List (Int×Diii)×Int×List Diii) ⊕ (Int×Int×Nat×Int×Int×Int×List Diii×List (Int×Diii)×Int×List Diii) ⊕ (Int×Int×Nat×Int×Int×Int×List Diii×List (Int×Diii)×Int×List Diii))→Option q2ki) (x6:Int×Int×Nat×Int×Int×Int×List Diii×List (Int×Diii)×Int×List Diii):Option q2ki :=
 (q2q4 (q2km d) x6).eval fun y38c =>
 bif y38c.2.2.2.1 then ((q2q8 (q2km d) y38c).eval fun y39c =>
 (q2qc (q2km d) y39c).eval fun y40c =>
 bif y40c.2.2.2.1 then ((q2qe (q2km d) y40c).eval fun y41c =>
 (q2qg (q2km d) y41c).eval fun y42c =>
 self6 (.inr (.inl y42c))) else ((q2qi (q2km d) y40c).eval fun y43c =>
 (q2qk (q2km d) y43c).eval fun y44c =>
 self6 (.inr (.inr y44c)))) else ((q2qm (q2km d) y38c).eval fun y45c =>
 (q2qo (q2km d) y45c).eval fun y46c =>
 some (y46c.2.1,y46c.2.2,y46c.1))
def q2qr (d:Nat) (self6:((Int×Int×Int×Int×Int×List Diii×List (Int×Diii)×Int×List Diii) ⊕ (Int×Int×Nat×Int×Int×Int×List Diii×List (Int×Diii)×Int×List Diii) ⊕ (Int×Int×Nat×Int×Int×Int×List Diii×List (Int×Diii)×Int×List Diii))→Option q2ki) (x6:(Int×Int×Int×Int×Int×List Diii×List (Int×Diii)×Int×List Diii) ⊕ (Int×Int×Nat×Int×Int×Int×List Diii×List (Int×Diii)×Int×List Diii) ⊕ (Int×Int×Nat×Int×Int×Int×List Diii×List (Int×Diii)×Int×List Diii)):Option q2ki :=
 match x6 with
 | (.inl x)=>q2pc d self6 x
 | (.inr (.inl x))=>q2q1 d self6 x
 | (.inr (.inr x))=>q2qq d self6 x
def q2qs (x:(Int×Int×Int×Int×Int×List Diii×List (Int×Diii)×Int×List Diii) ⊕ (Int×Int×Nat×Int×Int×Int×List Diii×List (Int×Diii)×Int×List Diii) ⊕ (Int×Int×Nat×Int×Int×Int×List Diii×List (Int×Diii)×Int×List Diii)):St :=
 match x with
 | (.inl x6)=>⟨[(7,.ptr 0 0),(8,.ptr 1 0),(14,.mp 3),(17,.ptr 4 0),(22,.int .i64 x6.1),(23,.int .i64 x6.2.1),(24,.ptr 4 0)],[.cells [.int .i64 x6.2.2.1,.int .i64 x6.2.2.2.1],.cells [.int .i64 x6.2.2.2.2.1,.rs 2],.rows Riii x6.2.2.2.2.2.1,.imap .i64 true Riii x6.2.2.2.2.2.2.1,.cells [.int .i64 x6.2.2.2.2.2.2.2.1,.rs 5],.rows Riii x6.2.2.2.2.2.2.2.2]⟩
 | (.inr (.inl x6))=>⟨[(7,.ptr 0 0),(8,.ptr 1 0),(14,.mp 3),(17,.ptr 4 0),(22,.int .i64 x6.1),(23,.int .i64 x6.2.1),(24,.rp 5 x6.2.2.1 3 2)],[.cells [.int .i64 x6.2.2.2.1,.int .i64 x6.2.2.2.2.1],.cells [.int .i64 x6.2.2.2.2.2.1,.rs 2],.rows Riii x6.2.2.2.2.2.2.1,.imap .i64 true Riii x6.2.2.2.2.2.2.2.1,.cells [.int .i64 x6.2.2.2.2.2.2.2.2.1,.rs 5],.rows Riii x6.2.2.2.2.2.2.2.2.2]⟩
 | (.inr (.inr x6))=>⟨[(7,.ptr 0 0),(8,.ptr 1 0),(14,.mp 3),(17,.ptr 4 0),(22,.int .i64 x6.1),(23,.int .i64 x6.2.1),(24,.rp 5 x6.2.2.1 3 1)],[.cells [.int .i64 x6.2.2.2.1,.int .i64 x6.2.2.2.2.1],.cells [.int .i64 x6.2.2.2.2.2.1,.rs 2],.rows Riii x6.2.2.2.2.2.2.1,.imap .i64 true Riii x6.2.2.2.2.2.2.2.1,.cells [.int .i64 x6.2.2.2.2.2.2.2.2.1,.rs 5],.rows Riii x6.2.2.2.2.2.2.2.2.2]⟩
def q2qt  (d:Nat)  (z:Int×Int×Int×Int×Int×List Diii×List (Int×Diii)×Int×List Diii):Option (q2ki) :=
 iter (q2qr d ) d (.inl z)
def q2qu (d:Nat) (self2:(Int×Int×Int×Int×List Diii×Int×List Diii×Int×Int×Int×List Diii×List (Int×Diii)×Int×List Diii)→Option q2ki) (x2:Int×Int×Int×Int×List Diii×Int×List Diii×Int×Int×Int×List Diii×List (Int×Diii)×Int×List Diii):Option q2ki :=
 (q2n0 (q2km d) x2).eval fun y23 =>
 bif y23.2.2.2.1 then ((q2n4 (q2km d) y23).eval fun y24 =>
 (q2n8 (q2km d) y24).eval fun y25 =>
 (q2nc (q2km d) y25).eval fun y26 =>
 bif y26.2.2.2.2.1 then ((q2ne (q2km d) y26).eval fun y27 =>
 some (y27.2.1,y27.2.2,y27.1)) else ((q2ni (q2km d) y26).eval fun y28 =>
 bif y28.2.2.2.2.1 then ((q2nk (q2km d) y28).eval fun y29 =>
 q2nv d self2 y29) else (q2nv d self2 (y28.1,y28.2.1,y28.2.2.1,y28.2.2.2.1,y28.2.2.2.2.2.1,y28.2.2.2.2.2.2.1,y28.2.2.2.2.2.2.2.1,y28.2.2.2.2.2.2.2.2.1,y28.2.2.2.2.2.2.2.2.2.1,y28.2.2.2.2.2.2.2.2.2.2.1,y28.2.2.2.2.2.2.2.2.2.2.2.1,y28.2.2.2.2.2.2.2.2.2.2.2.2.1,y28.2.2.2.2.2.2.2.2.2.2.2.2.2.1,y28.2.2.2.2.2.2.2.2.2.2.2.2.2.2.1,y28.2.2.2.2.2.2.2.2.2.2.2.2.2.2.2.1,y28.2.2.2.2.2.2.2.2.2.2.2.2.2.2.2.2.1,y28.2.2.2.2.2.2.2.2.2.2.2.2.2.2.2.2.2.1,y28.2.2.2.2.2.2.2.2.2.2.2.2.2.2.2.2.2.2)))) else ((q2ny (q2km d) y23).eval fun y33 =>
 bif y33.2.1 then ((q2o0 (q2km d) y33).eval fun y34 =>
 some (y34.2.1,y34.2.2,y34.1)) else ((q2o4 (q2km d) y33).eval fun y35 =>
 (q2o8 (q2km d) y35).eval fun y36 =>
 bif y36.2.2.2.1 then ((q2oc (q2km d) y36).eval fun y37 =>
 q2qt d  y37) else (q2qt d  (y36.2.1,y36.2.2.1,y36.2.2.2.2.1,y36.2.2.2.2.2.1,y36.2.2.2.2.2.2.1,y36.2.2.2.2.2.2.2.1,y36.2.2.2.2.2.2.2.2.1,y36.2.2.2.2.2.2.2.2.2.1,y36.2.2.2.2.2.2.2.2.2.2))))
def q2qv (d:Nat) (self1:(Int×List Diii×Int×Int×Int×List Diii×Int×List Diii×Int×Int×Int×List Diii×List (Int×Diii))→Option q2ki) (x1:Int×List Diii×Int×Int×Int×List Diii×Int×List Diii×Int×Int×Int×List Diii×List (Int×Diii)):Option q2ki :=
 (q2mg (q2km d) x1).eval fun y17 =>
 bif y17.2.2.2.2.1 then ((q2mk (q2km d) y17).eval fun y18 =>
 (q2mm (q2km d) y18).eval fun y19 =>
 (q2mo (q2km d) y19).eval fun y20 =>
 self1 y20) else ((q2ms (q2km d) y17).eval fun y21 =>
 (q2mw (q2km d) y21).eval fun y22 =>
 iter (q2qu d ) d y22)
def q2qw (d:Nat) (x:q2kh):Option q2ki :=
 (q2ks (q2km d) (x.1.1,x.1.2.1,x.2.1.1,x.2.1.2.1,x.2.2.1.1,x.2.2.2.1.1,x.2.2.2.1.2.1)).eval fun y0 =>
 (q2kw (q2km d) y0).eval fun y1 =>
 (q2l0 (q2km d) y1).eval fun y2 =>
 bif y2.2.1 then ((q2l4 (q2km d) y2).eval fun y3 =>
 some (y3.2.1,y3.2.2,y3.1)) else ((q2l8 (q2km d) y2).eval fun y4 =>
 (q2lc (q2km d) y4).eval fun y5 =>
 bif y5.2.1 then ((q2le (q2km d) y5).eval fun y6 =>
 some (y6.2.1,y6.2.2,y6.1)) else ((q2li (q2km d) y5).eval fun y7 =>
 bif y7.1 then ((q2lk (q2km d) y7).eval fun y8 =>
 some (y8.2.1,y8.2.2,y8.1)) else ((q2lo (q2km d) y7).eval fun y9 =>
 (q2ls (q2km d) y9).eval fun y10 =>
 bif y10.2.1 then ((q2lu (q2km d) y10).eval fun y11 =>
 some (y11.2.1,y11.2.2,y11.1)) else ((q2ly (q2km d) y10).eval fun y12 =>
 (q2m2 (q2km d) y12).eval fun y13 =>
 bif y13.2.1 then ((q2m4 (q2km d) y13).eval fun y14 =>
 some (y14.2.1,y14.2.2,y14.1)) else ((q2m8 (q2km d) y13).eval fun y15 =>
 (q2mc (q2km d) y15).eval fun y16 =>
 iter (q2qv d ) d y16)))))
theorem q2qx (d:Nat):COK prog (q2kk (q2qw d)):=by
 have hm:prog.follows .mixedOrders=true:=mixed
 have hT:=tys
 have hC0:OrcOK prog (orc (q2kn (q2km d))):=qe4 (by
  intro S hS
  simp only [q2kn,List.mem_cons,List.not_mem_nil,or_false] at hS
  rcases hS with rfl | rfl | rfl | rfl | rfl
  · exact qyz d
  · exact q130 d
  · exact qq0 d
  · exact q2b5 d
  · exact q2e3 d)
 have hC:OrcOK prog (orc (q2kn (q2km d))):=hC0
 refine q9t (c:=qea f30) (fn:=f30) hT (by kernel_rfl) (by kernel_rfl) (by decide) fun x r h w0 φ0 Q hend=>?_
 replace h:q2qw d x=some r:=h
 unfold q2qw at h
 show Run prog w0 φ0 232 (qea f30) ⟨[(0,.agg [.int .i64 x.1.1,.fz Riii x.1.2.1]),(1,.agg [.int .i64 x.2.1.1,.fz Riii x.2.1.2.1]),(2,.agg [.fz Riii x.2.2.1.1]),(3,.agg [.int .i64 x.2.2.2.1.1,.int .i64 x.2.2.2.1.2.1])],[]⟩ Q
 refine q344 hm hT hC (q2kt (q2km d) (x.1.1,x.1.2.1,x.2.1.1,x.2.1.2.1,x.2.2.1.1,x.2.2.2.1.1,x.2.2.2.1.2.1)) h fun y0 h=>?_
 refine q9d ?_
 refine q344 hm hT hC (q2kx (q2km d) y0) h fun y1 h=>?_
 refine q344 hm hT hC (q2l1 (q2km d) y1) h fun y2 h=>?_
 refine q9h (v:=y2.2.1) (by kernel_rfl) h ?_ ?_
 ·
  intro h
  refine q344 hm hT hC (q2l5 (q2km d) y2) h fun y3 h=>?_
  refine q9c (q91 ?_)
  cases h
  exact (hend _ (by kernel_rfl)).2
 ·
  intro h
  refine q99 (q8z (q9d ?_))
  refine q344 hm hT hC (q2l9 (q2km d) y2) h fun y4 h=>?_
  refine q344 hm hT hC (q2ld (q2km d) y4) h fun y5 h=>?_
  refine q9h (v:=y5.2.1) (by kernel_rfl) h ?_ ?_
  ·
   intro h
   refine q344 hm hT hC (q2lf (q2km d) y5) h fun y6 h=>?_
   refine q9c (q91 ?_)
   cases h
   exact (hend _ (by kernel_rfl)).2
  ·
   intro h
   refine q99 (q8z (q9d ?_))
   refine q344 hm hT hC (q2lj (q2km d) y5) h fun y7 h=>?_
   refine q9h (v:=y7.1) (by kernel_rfl) h ?_ ?_
   ·
    intro h
    refine q344 hm hT hC (q2ll (q2km d) y7) h fun y8 h=>?_
    refine q9c (q91 ?_)
    cases h
    exact (hend _ (by kernel_rfl)).2
   ·
    intro h
    refine q99 (q8z (q9d ?_))
    refine q344 hm hT hC (q2lp (q2km d) y7) h fun y9 h=>?_
    refine q344 hm hT hC (q2lt (q2km d) y9) h fun y10 h=>?_
    refine q9h (v:=y10.2.1) (by kernel_rfl) h ?_ ?_
    ·
     intro h
     refine q344 hm hT hC (q2lv (q2km d) y10) h fun y11 h=>?_
     refine q9c (q91 ?_)
     cases h
     exact (hend _ (by kernel_rfl)).2
    ·
     intro h
     refine q99 (q8z ?_)
     refine q344 hm hT hC (q2lz (q2km d) y10) h fun y12 h=>?_
     refine q9d ?_
     refine q344 hm hT hC (q2m3 (q2km d) y12) h fun y13 h=>?_
     refine q9h (v:=y13.2.1) (by kernel_rfl) h ?_ ?_
     ·
      intro h
      refine q344 hm hT hC (q2m5 (q2km d) y13) h fun y14 h=>?_
      refine q9c (q91 ?_)
      cases h
      exact (hend _ (by kernel_rfl)).2
     ·
      intro h
      refine q99 (q8z ?_)
      refine q344 hm hT hC (q2m9 (q2km d) y13) h fun y15 h=>?_
      refine q9d ?_
      refine q344 hm hT hC (q2md (q2km d) y15) h fun y16 h=>?_
      refine q9e ?_
      refine q9j (G:=iter (q2qv d )) (S:=(fun x1=>⟨[(4,.ptr 0 0),(5,.ptr 1 0),(7,.ptr 2 0),(8,.ptr 3 0),(13,i6 x1.1),(14,.mp 5),(67,.fz Riii x1.2.1),(68,i6 x1.2.2.1),(69,i6 x1.2.2.2.1)],[.cells [i6 x1.2.2.2.2.1,.fz Riii x1.2.2.2.2.2.1],.cells [i6 x1.2.2.2.2.2.2.1,.fz Riii x1.2.2.2.2.2.2.2.1],.cells [i6 x1.2.2.2.2.2.2.2.2.1,i6 x1.2.2.2.2.2.2.2.2.2.1],.cells [i6 x1.2.2.2.2.2.2.2.2.2.2.1,.rs 4],.rows Riii x1.2.2.2.2.2.2.2.2.2.2.2.1,.imap .i64 true Riii x1.2.2.2.2.2.2.2.2.2.2.2.2]⟩:Int×List Diii×Int×Int×Int×List Diii×Int×List Diii×Int×Int×Int×List Diii×List (Int×Diii)→St)) (fun _=>rfl) ?_ d _ h
      intro n1 x1 h K1 hn1
      replace h:q2qv d  (iter (q2qv d ) n1) x1=some r:=h
      generalize iter (q2qv d ) n1=self1 at h hn1
      unfold q2qv at h
      refine q344 hm hT hC (q2mh (q2km d) x1) h fun y17 h=>?_
      refine q9d ?_
      refine q9h (v:=y17.2.2.2.2.1) (by kernel_rfl) h ?_ ?_
      ·
       intro h
       refine q99 (q8z (q9d (q9e ?_)))
       refine q344 hm hT hC (q2ml (q2km d) y17) h fun y18 h=>?_
       refine q9i hm hT hC (q2mn (q2km d) y18) h ?_
       intro y19 h
       refine q92 (q8z ?_)
       refine q9i hm hT hC (q2mp (q2km d) y19) h ?_
       intro y20 h
       exact hn1 _ h
      ·
       intro h
       refine q9b (q90 (q90 (q94 (q8z ?_))))
       refine q344 hm hT hC (q2mt (q2km d) y17) h fun y21 h=>?_
       refine q9d ?_
       refine q344 hm hT hC (q2mx (q2km d) y21) h fun y22 h=>?_
       refine q9e ?_
       refine q9j (G:=iter (q2qu d )) (S:=(fun x2=>⟨[(4,.ptr 0 0),(5,.ptr 1 0),(7,.ptr 2 0),(8,.ptr 3 0),(13,i6 x2.1),(14,.mp 5),(17,.ptr 6 0),(86,.rs 7),(87,i6 x2.2.1),(88,i6 x2.2.2.1)],[.cells [i6 x2.2.2.2.1,.fz Riii x2.2.2.2.2.1],.cells [i6 x2.2.2.2.2.2.1,.fz Riii x2.2.2.2.2.2.2.1],.cells [i6 x2.2.2.2.2.2.2.2.1,i6 x2.2.2.2.2.2.2.2.2.1],.cells [i6 x2.2.2.2.2.2.2.2.2.2.1,.rs 4],.rows Riii x2.2.2.2.2.2.2.2.2.2.2.1,.imap .i64 true Riii x2.2.2.2.2.2.2.2.2.2.2.2.1,.cells [i6 x2.2.2.2.2.2.2.2.2.2.2.2.2.1,.rs 7],.rows Riii x2.2.2.2.2.2.2.2.2.2.2.2.2.2]⟩:Int×Int×Int×Int×List Diii×Int×List Diii×Int×Int×Int×List Diii×List (Int×Diii)×Int×List Diii→St)) (fun _=>rfl) ?_ d _ h
       intro n2 x2 h K2 hn2
       replace h:q2qu d  (iter (q2qu d ) n2) x2=some r:=h
       generalize iter (q2qu d ) n2=self2 at h hn2
       unfold q2qu at h
       refine q344 hm hT hC (q2n1 (q2km d) x2) h fun y23 h=>?_
       refine q9d ?_
       refine q9h (v:=y23.2.2.2.1) (by kernel_rfl) h ?_ ?_
       ·
        intro h
        refine q99 (q8z ?_)
        refine q9g (r:=r) (F:=q2nu d self2) (S:=(fun z=>⟨[(4,.ptr 0 0),(5,.ptr 1 0),(7,.ptr 2 0),(8,.ptr 3 0),(13,i6 z.1),(14,.mp 5),(17,.ptr 6 0),(86,.rs 7),(87,i6 z.2.1),(88,i6 z.2.2.1)],[.cells [i6 z.2.2.2.1,.fz Riii z.2.2.2.2.1],.cells [i6 z.2.2.2.2.2.1,.fz Riii z.2.2.2.2.2.2.1],.cells [i6 z.2.2.2.2.2.2.2.1,i6 z.2.2.2.2.2.2.2.2.1],.cells [i6 z.2.2.2.2.2.2.2.2.2.1,.rs 4],.rows Riii z.2.2.2.2.2.2.2.2.2.2.1,.imap .i64 true Riii z.2.2.2.2.2.2.2.2.2.2.2.1,.cells [i6 z.2.2.2.2.2.2.2.2.2.2.2.2.1,.rs 7],.rows Riii z.2.2.2.2.2.2.2.2.2.2.2.2.2]⟩:Int×Int×Int×Int×List Diii×Int×List Diii×Int×Int×Int×List Diii×List (Int×Diii)×Int×List Diii→St)) ?_ ?_
        ·
         intro z h
         unfold q2nu at h
         refine q9i hm hT hC (q2nt (q2km d) z) h ?_
         intro y32 h
         exact hn2 _ h
        intro hj3
        refine q9e ?_
        refine q344 hm hT hC (q2n5 (q2km d) y23) h fun y24 h=>?_
        refine q9d ?_
        refine q344 hm hT hC (q2n9 (q2km d) y24) h fun y25 h=>?_
        refine q344 hm hT hC (q2nd (q2km d) y25) h fun y26 h=>?_
        refine q9h (v:=y26.2.2.2.2.1) (by kernel_rfl) h ?_ ?_
        ·
         intro h
         refine q344 hm hT hC (q2nf (q2km d) y26) h fun y27 h=>?_
         refine q9c (q91 (q93 (q91 (q91 (q93 (q91 ?_))))))
         cases h
         exact (hend _ (by kernel_rfl)).2
        ·
         intro h
         refine q99 (q8z ?_)
         refine q9g (r:=r) (F:=q2nv d self2) (S:=(fun z=>⟨[(4,.ptr 0 0),(5,.ptr 1 0),(7,.ptr 2 0),(8,.ptr 3 0),(13,i6 z.1),(14,.mp 5),(17,.ptr 6 0),(18,i6 z.2.1),(19,.ptr 8 0),(86,.rs 7),(87,i6 z.2.2.1),(88,i6 z.2.2.2.1)],[.cells [i6 z.2.2.2.2.1,.fz Riii z.2.2.2.2.2.1],.cells [i6 z.2.2.2.2.2.2.1,.fz Riii z.2.2.2.2.2.2.2.1],.cells [i6 z.2.2.2.2.2.2.2.2.1,i6 z.2.2.2.2.2.2.2.2.2.1],.cells [i6 z.2.2.2.2.2.2.2.2.2.2.1,.rs 4],.rows Riii z.2.2.2.2.2.2.2.2.2.2.2.1,.imap .i64 true Riii z.2.2.2.2.2.2.2.2.2.2.2.2.1,.cells [i6 z.2.2.2.2.2.2.2.2.2.2.2.2.2.1,.rs 7],.rows Riii z.2.2.2.2.2.2.2.2.2.2.2.2.2.2.1,.cells [i6 z.2.2.2.2.2.2.2.2.2.2.2.2.2.2.2.1,i6 z.2.2.2.2.2.2.2.2.2.2.2.2.2.2.2.2.1,i6 z.2.2.2.2.2.2.2.2.2.2.2.2.2.2.2.2.2]]⟩:Int×Int×Int×Int×Int×List Diii×Int×List Diii×Int×Int×Int×List Diii×List (Int×Diii)×Int×List Diii×Int×Int×Int→St)) ?_ ?_
         ·
          intro z h
          unfold q2nv at h
          refine q344 hm hT hC (q2np (q2km d) z) h fun y30 h=>?_
          refine q9h (v:=y30.2.2.2.2.1) (by kernel_rfl) h ?_ ?_
          ·
           intro h
           refine q9i hm hT hC (q2nr (q2km d) y30) h ?_
           intro y31 h
           refine q92 ?_
           exact hj3 _ h
          ·
           intro h
           refine q99 (q92 ?_)
           refine qe9 (s:=⟨[(4,.ptr 0 0),(5,.ptr 1 0),(7,.ptr 2 0),(8,.ptr 3 0),(13,.int .i64 y30.1),(14,.mp 5),(17,.ptr 6 0),(86,.rs 7),(87,.int .i64 y30.2.2.1),(88,.int .i64 y30.2.2.2.1)],[.cells [.int .i64 y30.2.2.2.2.2.1,.fz Riii y30.2.2.2.2.2.2.1],.cells [.int .i64 y30.2.2.2.2.2.2.2.1,.fz Riii y30.2.2.2.2.2.2.2.2.1],.cells [.int .i64 y30.2.2.2.2.2.2.2.2.2.1,.int .i64 y30.2.2.2.2.2.2.2.2.2.2.1],.cells [.int .i64 y30.2.2.2.2.2.2.2.2.2.2.2.1,.rs 4],.rows Riii y30.2.2.2.2.2.2.2.2.2.2.2.2.1,.imap .i64 true Riii y30.2.2.2.2.2.2.2.2.2.2.2.2.2.1,.cells [.int .i64 y30.2.2.2.2.2.2.2.2.2.2.2.2.2.2.1,.rs 7],.rows Riii y30.2.2.2.2.2.2.2.2.2.2.2.2.2.2.2]⟩) [18,128] (by kernel_rfl) ?_
           exact hj3 _ h
         intro hj4
         refine q344 hm hT hC (q2nj (q2km d) y26) h fun y28 h=>?_
         refine q9h (v:=y28.2.2.2.2.1) (by kernel_rfl) h ?_ ?_
         ·
          intro h
          refine q9i hm hT hC (q2nl (q2km d) y28) h ?_
          intro y29 h
          exact hj4 _ h
         ·
          intro h
          refine q99 ?_
          refine qe9 (s:=⟨[(4,.ptr 0 0),(5,.ptr 1 0),(7,.ptr 2 0),(8,.ptr 3 0),(13,.int .i64 y28.1),(14,.mp 5),(17,.ptr 6 0),(18,.int .i64 y28.2.1),(19,.ptr 8 0),(86,.rs 7),(87,.int .i64 y28.2.2.1),(88,.int .i64 y28.2.2.2.1)],[.cells [.int .i64 y28.2.2.2.2.2.1,.fz Riii y28.2.2.2.2.2.2.1],.cells [.int .i64 y28.2.2.2.2.2.2.2.1,.fz Riii y28.2.2.2.2.2.2.2.2.1],.cells [.int .i64 y28.2.2.2.2.2.2.2.2.2.1,.int .i64 y28.2.2.2.2.2.2.2.2.2.2.1],.cells [.int .i64 y28.2.2.2.2.2.2.2.2.2.2.2.1,.rs 4],.rows Riii y28.2.2.2.2.2.2.2.2.2.2.2.2.1,.imap .i64 true Riii y28.2.2.2.2.2.2.2.2.2.2.2.2.2.1,.cells [.int .i64 y28.2.2.2.2.2.2.2.2.2.2.2.2.2.2.1,.rs 7],.rows Riii y28.2.2.2.2.2.2.2.2.2.2.2.2.2.2.2.1,.cells [.int .i64 y28.2.2.2.2.2.2.2.2.2.2.2.2.2.2.2.2.1,.int .i64 y28.2.2.2.2.2.2.2.2.2.2.2.2.2.2.2.2.2.1,.int .i64 y28.2.2.2.2.2.2.2.2.2.2.2.2.2.2.2.2.2.2]]⟩) [110] (by kernel_rfl) ?_
          exact hj4 _ h
       ·
        intro h
        refine q9b (q90 (q90 (q94 (q8z (q9d ?_)))))
        refine q344 hm hT hC (q2nz (q2km d) y23) h fun y33 h=>?_
        refine q9h (v:=y33.2.1) (by kernel_rfl) h ?_ ?_
        ·
         intro h
         refine q344 hm hT hC (q2o1 (q2km d) y33) h fun y34 h=>?_
         refine q9c (q91 ?_)
         cases h
         exact (hend _ (by kernel_rfl)).2
        ·
         intro h
         refine q99 (q8z ?_)
         refine q344 hm hT hC (q2o5 (q2km d) y33) h fun y35 h=>?_
         refine q9g (r:=r) (F:=q2qt d ) (S:=(fun z=>⟨[(7,.ptr 0 0),(8,.ptr 1 0),(14,.mp 3),(17,.ptr 4 0),(22,i6 z.1),(23,i6 z.2.1),(24,.ptr 4 0)],[.cells [i6 z.2.2.1,i6 z.2.2.2.1],.cells [i6 z.2.2.2.2.1,.rs 2],.rows Riii z.2.2.2.2.2.1,.imap .i64 true Riii z.2.2.2.2.2.2.1,.cells [i6 z.2.2.2.2.2.2.2.1,.rs 5],.rows Riii z.2.2.2.2.2.2.2.2]⟩:Int×Int×Int×Int×Int×List Diii×List (Int×Diii)×Int×List Diii→St)) ?_ ?_
         ·
          intro z h
          unfold q2qt at h
          refine q9d (q9e ?_)
          refine q9j (G:=iter (q2qr d )) (S:=q2qs) (fun _=>rfl) ?_ d _ h
          intro n6 x6 h K6 hn6
          rcases x6 with x6 | x6 | x6
          ·
           replace h:q2pc d  (iter (q2qr d ) n6) x6=some r:=h
           generalize iter (q2qr d ) n6=self6 at h hn6
           unfold q2pc at h
           show Run prog w0 φ0 232 _ ⟨[(7,.ptr 0 0),(8,.ptr 1 0),(14,.mp 3),(17,.ptr 4 0),(22,.int .i64 x6.1),(23,.int .i64 x6.2.1),(24,.ptr 4 0)],[.cells [.int .i64 x6.2.2.1,.int .i64 x6.2.2.2.1],.cells [.int .i64 x6.2.2.2.2.1,.rs 2],.rows Riii x6.2.2.2.2.2.1,.imap .i64 true Riii x6.2.2.2.2.2.2.1,.cells [.int .i64 x6.2.2.2.2.2.2.2.1,.rs 5],.rows Riii x6.2.2.2.2.2.2.2.2]⟩ _
           refine q9d (q9d ?_)
           refine q9i hm hT hC (q2oh (q2km d) x6) h ?_
           intro y38a h
           refine q8z ?_
           refine q9h (v:=y38a.2.2.1) (by kernel_rfl) h ?_ ?_
           ·
            intro h
            refine q99 (q8z (q9e (q9d ?_)))
            refine q9i hm hT hC (q2ol (q2km d) y38a) h ?_
            intro y39a h
            refine q8z (q9d ?_)
            refine q9i hm hT hC (q2op (q2km d) y39a) h ?_
            intro y40a h
            refine q8z ?_
            refine q9h (v:=y40a.2.2.1) (by kernel_rfl) h ?_ ?_
            ·
             intro h
             refine q9d ?_
             refine q9i hm hT hC (q2ot (q2km d) y40a) h ?_
             intro y41a h
             refine q8z ?_
             refine q9i hm hT hC (q2ox (q2km d) y41a) h ?_
             intro y42a h
             refine q92 ?_
             exact hn6 _ h
            ·
             intro h
             refine q9d ?_
             refine q9i hm hT hC (q2p1 (q2km d) y40a) h ?_
             intro y43a h
             refine q8z ?_
             refine q9i hm hT hC (q2p5 (q2km d) y43a) h ?_
             intro y44a h
             refine q92 ?_
             exact hn6 _ h
           ·
            intro h
            refine q9b (q90 (q90 (q94 (q8z (q9d ?_)))))
            refine q9i hm hT hC (q2p9 (q2km d) y38a) h ?_
            intro y45a h
            refine q8z (q9d ?_)
            refine q9i hm hT hC (q2pb (q2km d) y45a) h ?_
            intro y46a h
            refine q8z (q9c ?_)
            cases h
            exact (hend _ (by kernel_rfl)).2
          ·
           replace h:q2q1 d  (iter (q2qr d ) n6) x6=some r:=h
           generalize iter (q2qr d ) n6=self6 at h hn6
           unfold q2q1 at h
           show Run prog w0 φ0 232 _ ⟨[(7,.ptr 0 0),(8,.ptr 1 0),(14,.mp 3),(17,.ptr 4 0),(22,.int .i64 x6.1),(23,.int .i64 x6.2.1),(24,.rp 5 x6.2.2.1 3 2)],[.cells [.int .i64 x6.2.2.2.1,.int .i64 x6.2.2.2.2.1],.cells [.int .i64 x6.2.2.2.2.2.1,.rs 2],.rows Riii x6.2.2.2.2.2.2.1,.imap .i64 true Riii x6.2.2.2.2.2.2.2.1,.cells [.int .i64 x6.2.2.2.2.2.2.2.2.1,.rs 5],.rows Riii x6.2.2.2.2.2.2.2.2.2]⟩ _
           refine q9d (q9d ?_)
           refine q9i hm hT hC (q2pg (q2km d) x6) h ?_
           intro y38b h
           refine q8z ?_
           refine q9h (v:=y38b.2.2.2.1) (by kernel_rfl) h ?_ ?_
           ·
            intro h
            refine q99 (q8z (q9e (q9d ?_)))
            refine q9i hm hT hC (q2pk (q2km d) y38b) h ?_
            intro y39b h
            refine q8z (q9d ?_)
            refine q9i hm hT hC (q2po (q2km d) y39b) h ?_
            intro y40b h
            refine q8z ?_
            refine q9h (v:=y40b.2.2.2.1) (by kernel_rfl) h ?_ ?_
            ·
             intro h
             refine q9d ?_
             refine q9i hm hT hC (q2pq (q2km d) y40b) h ?_
             intro y41b h
             refine q8z ?_
             refine q9i hm hT hC (q2ps (q2km d) y41b) h ?_
             intro y42b h
             refine q92 ?_
             exact hn6 _ h
            ·
             intro h
             refine q9d ?_
             refine q9i hm hT hC (q2pu (q2km d) y40b) h ?_
             intro y43b h
             refine q8z ?_
             refine q9i hm hT hC (q2pw (q2km d) y43b) h ?_
             intro y44b h
             refine q92 ?_
             exact hn6 _ h
           ·
            intro h
            refine q9b (q90 (q90 (q94 (q8z (q9d ?_)))))
            refine q9i hm hT hC (q2py (q2km d) y38b) h ?_
            intro y45b h
            refine q8z (q9d ?_)
            refine q9i hm hT hC (q2q0 (q2km d) y45b) h ?_
            intro y46b h
            refine q8z (q9c ?_)
            cases h
            exact (hend _ (by kernel_rfl)).2
          ·
           replace h:q2qq d  (iter (q2qr d ) n6) x6=some r:=h
           generalize iter (q2qr d ) n6=self6 at h hn6
           unfold q2qq at h
           show Run prog w0 φ0 232 _ ⟨[(7,.ptr 0 0),(8,.ptr 1 0),(14,.mp 3),(17,.ptr 4 0),(22,.int .i64 x6.1),(23,.int .i64 x6.2.1),(24,.rp 5 x6.2.2.1 3 1)],[.cells [.int .i64 x6.2.2.2.1,.int .i64 x6.2.2.2.2.1],.cells [.int .i64 x6.2.2.2.2.2.1,.rs 2],.rows Riii x6.2.2.2.2.2.2.1,.imap .i64 true Riii x6.2.2.2.2.2.2.2.1,.cells [.int .i64 x6.2.2.2.2.2.2.2.2.1,.rs 5],.rows Riii x6.2.2.2.2.2.2.2.2.2]⟩ _
           refine q9d (q9d ?_)
           refine q9i hm hT hC (q2q5 (q2km d) x6) h ?_
           intro y38c h
           refine q8z ?_
           refine q9h (v:=y38c.2.2.2.1) (by kernel_rfl) h ?_ ?_
           ·
            intro h
            refine q99 (q8z (q9e (q9d ?_)))
            refine q9i hm hT hC (q2q9 (q2km d) y38c) h ?_
            intro y39c h
            refine q8z (q9d ?_)
            refine q9i hm hT hC (q2qd (q2km d) y39c) h ?_
            intro y40c h
            refine q8z ?_
            refine q9h (v:=y40c.2.2.2.1) (by kernel_rfl) h ?_ ?_
            ·
             intro h
             refine q9d ?_
             refine q9i hm hT hC (q2qf (q2km d) y40c) h ?_
             intro y41c h
             refine q8z ?_
             refine q9i hm hT hC (q2qh (q2km d) y41c) h ?_
             intro y42c h
             refine q92 ?_
             exact hn6 _ h
            ·
             intro h
             refine q9d ?_
             refine q9i hm hT hC (q2qj (q2km d) y40c) h ?_
             intro y43c h
             refine q8z ?_
             refine q9i hm hT hC (q2ql (q2km d) y43c) h ?_
             intro y44c h
             refine q92 ?_
             exact hn6 _ h
           ·
            intro h
            refine q9b (q90 (q90 (q94 (q8z (q9d ?_)))))
            refine q9i hm hT hC (q2qn (q2km d) y38c) h ?_
            intro y45c h
            refine q8z (q9d ?_)
            refine q9i hm hT hC (q2qp (q2km d) y45c) h ?_
            intro y46c h
            refine q8z (q9c ?_)
            cases h
            exact (hend _ (by kernel_rfl)).2
         intro hj5
         refine q344 hm hT hC (q2o9 (q2km d) y35) h fun y36 h=>?_
         refine q9h (v:=y36.2.2.2.1) (by kernel_rfl) h ?_ ?_
         ·
          intro h
          refine q9i hm hT hC (q2od (q2km d) y36) h ?_
          intro y37 h
          exact hj5 _ h
         ·
          intro h
          refine q99 ?_
          refine qe9 (s:=⟨[(7,.ptr 0 0),(8,.ptr 1 0),(14,.mp 3),(17,.ptr 4 0),(22,.int .i64 y36.2.1),(23,.int .i64 y36.2.2.1),(24,.ptr 4 0)],[.cells [.int .i64 y36.2.2.2.2.1,.int .i64 y36.2.2.2.2.2.1],.cells [.int .i64 y36.2.2.2.2.2.2.1,.rs 2],.rows Riii y36.2.2.2.2.2.2.2.1,.imap .i64 true Riii y36.2.2.2.2.2.2.2.2.1,.cells [.int .i64 y36.2.2.2.2.2.2.2.2.2.1,.rs 5],.rows Riii y36.2.2.2.2.2.2.2.2.2.2]⟩) [13,172] (by kernel_rfl) ?_
          exact hj5 _ h
end Go.Proofs.Ytoakhncbmpdacaa

namespace Go.Tx
open Go
end Go.Tx

namespace Go.Proofs.Ytoakhncbmpdacaa
open Go Go.Tx Go.Proofs.Try
end Go.Proofs.Ytoakhncbmpdacaa
