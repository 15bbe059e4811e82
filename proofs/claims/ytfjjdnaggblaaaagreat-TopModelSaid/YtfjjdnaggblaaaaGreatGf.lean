/- Walks of the references; the orders agree; examples. -/
import Derived.Maps.Views
import Derived.Maps.OwnOps
import Derived.Deep.RegionHeld3
import Derived.RangeFuncRecord
import Derived.RangeFuncSeq
import Derived.RangeFuncBound
import Derived.Shelf.Abstract
import Derived.Shelf.RegionOpen
import Derived.WalkKit
import Derived.OwnWalkIn
import Derived.TacticsInMore
import Derived.LoopNIn
import Derived.LoopIn
import Derived.Test.YtfjjdnaggblaaaaGreatGe
set_option linter.unusedSimpArgs false
set_option linter.unusedVariables false
namespace Go.Proofs.YtfjjdnaggblaaaaGreat
open Go Go.Tx Go.Proofs.Tryz
set_option maxRecDepth 100000
set_option maxHeartbeats 0
noncomputable section
abbrev q1ht:Type:=qhy×Dii×Unit
abbrev q1hu:Type:=Int×Int×List Diii×Int×List Diii×List Di×List Db×List Di×List qim×List Di×List Diii×Int
noncomputable def q1hv (d:Nat):Ent:=⟨tysT,(orc [qv8 (qva d),qsy (qt0 d),(q1gt d).s,q12b (q12c d)]),f11,mkPl [(2,(.box [.val Riii])),(4,(.box [.any,.any,.own Riii,.any,.own Riii,.own Ri,.own Rb,.own Ri,.own qil,.own Ri,.own Riii])),(8,(.box [.own Ri,.own Rb,.own Ri,.own qil,.own Ri]))] [([0],[2,3,4]),([1],[2,3,4,6]),([2],[2,3,4,13]),([4],[2,3,4,7]),([5],[2,3,4,19]),([7],[2,3,4,8,9]),([8],[4,5])] [] [],d,11,[.row qhx true,.row Rii true],(.tup [(.agg [.undef,.undef,.undef,.undef,.undef,.undef,.undef,.undef,.undef,.undef,.undef]),.undef]),[.i .i64,.i .i64,.o Riii,.i .i64,.o Riii,.o Ri,.o Rb,.o Ri,.o qil,.o Ri,.o Riii,.i .i64]⟩
theorem q1hw (d:Nat):COK prog (q1hv d).s:=Ent.k mixed tys (qeo (ac1 (qvc d) (ac1 (qt2 d) (ac1 (q1gu d) (ac1 (q12d d) ac0))))) ⟨by kernel_rfl,by kernel_rfl,by kernel_rfl⟩
noncomputable def q1hx (d:Nat) (x:q1ht):Option q1hu:=(q1hv d).F x
def q1hy (d:Nat):q1ht->Option q1hu:=fun ((xAa,_),(xBa,xBb,_),_) =>
 (obnd (qva d ((xAa,()),())) fun r1=>(bif (r1 != 0) then none else (obnd (qt0 d ((xBa,xBb,()),())) fun r2=>(bif (r2 != 0) then none else (obnd (q1gv d ((200,()),())) fun (r3a,r3b,r3c,r3d,r3e,r3f)=>(obnd (q12c d ((xAa,()),())) fun r4=>(some (xBa,xBb,r4,0,([]:List Diii),r3a,r3b,r3c,r3d,r3e,([]:List Diii),r3f))))))))
theorem q1hz (d:Nat) (x:q1ht):q1hx d x=q1hy d x:=by kernel_rfl
abbrev q1i0:Type:=Diii×Di×Unit
abbrev q1i1:Type:=Int
noncomputable def q1i2 (d:Nat):Ent:=⟨tysT,(orc [(q17z d).s]),f87,mkPl [] [([0],[1,2]),([1],[4])] [] [],d,87,[.row Riii true,.row Ri false],.undef,[.i .i64]⟩
theorem q1i3 (d:Nat):COK prog (q1i2 d).s:=Ent.k mixed tys (qeo (ac1 (q180 d) ac0)) ⟨by kernel_rfl,by kernel_rfl,by kernel_rfl⟩
noncomputable def q1i4 (d:Nat) (x:q1i0):Option q1i1:=(q1i2 d).F x
def q1i5 (d:Nat):q1i0->Option q1i1:=fun ((xAa,_,_,_),(xBa,_),_) =>
 (obnd (q181 d ((xAa,()),(xBa,()),())) fun r1=>some r1)
theorem q1i6 (d:Nat) (x:q1i0):q1i4 d x=q1i5 d x:=by kernel_rfl
abbrev q1i7:Type:=qhy×Di×(Unit)×Unit
abbrev q1i8:Type:=Int×Bool
noncomputable def q1i9 (d:Nat):Ent:=⟨tysT,(orc [(q1i2 d).s]),f86,mkPl [(0,(.val Riii))] [([0],[0,1,2]),([1],[0,1,2,8]),([2,6,7],[0,1,2,8,9,10]),([3],[0,1,2,8,9,10,17]),([4],[0,1,2,8,9,10,11]),([5],[0,1,2,8,9,10,11,31]),([8],[6,7])] [] [(3,[0,1,2,8,9,10])],d,86,[.row qhx false,.row Ri false,.fn 87 []],(.tup [.undef,.undef]),[.i .i64,.bo]⟩
theorem q1ia (d:Nat):COK prog (q1i9 d).s:=Ent.k mixed tys (qeo (ac1 (q1i3 d) ac0)) ⟨by kernel_rfl,by kernel_rfl,by kernel_rfl⟩
noncomputable def q1ib (d:Nat) (x:q1i7):Option q1i8:=(q1i9 d).F x
abbrev q1ic:Type:=List Diii×Int×Int×Int×Int
def q1id (d:Nat) (self1:q1ic->Option q1i8):q1ic->Option q1i8:=fun (x1a,x1b,x1c,x1d,x1e) =>
 (bif (decide (x1d<x1e)) then (let a3:=(wi (shrI .u64 (IntKind.wrap .u64 (wi (x1d+x1e))) 1));(obif (inB a3 x1a.length) (let e2:=(elt ziii x1a a3.toNat);(obnd (q1i4 d ((e2.1,e2.2.1,e2.2.2.1,()),(x1b,()),())) fun r3=>(bif (decide (r3<0)) then (self1 (x1a,x1b,x1c,(wi (a3+1)),x1e)) else (self1 (x1a,x1b,x1c,x1d,a3))))) none)) else (obif (decide (x1d<x1c)) (obif (inB x1d x1a.length) (let e1:=(elt ziii x1a x1d.toNat);(obnd (q1i4 d ((e1.1,e1.2.1,e1.2.2.1,()),(x1b,()),())) fun r2=>(some (x1d,(r2==0))))) none) (some (x1d,false))))
def q1ie:q1ic->St:=fun (x1a,x1b,x1c,x1d,x1e)=>⟨[(0,.fz Riii x1a),(1,i6 x1b),(2,.fn 87 []),(8,i6 x1c),(9,i6 x1d),(10,i6 x1e)],[]⟩
theorem q1if (d:Nat) (self1:St->Option q1i8) (x:q1ic):(q1i9 d).b 3 [] self1 (q1ie x)=q1id d (fun y=>self1 (q1ie y)) x:=by kernel_rfl
def q1ig (d:Nat) (L1_g:q1ic->Option q1i8):q1i7->Option q1i8:=fun ((xAa,_),(xBa,_),_) =>
 (let a1:=(xAa.length:Int);(L1_g (xAa,xBa,a1,0,a1)))
theorem q1ih (d:Nat) (x:q1i7):q1ib d x=q1ig d (iter (q1id d) d) x:=by
 have h:q1ib d x=q1ig d (fun y=>iter ((q1i9 d).b 3 []) d (q1ie y)) x:=by kernel_rfl
 rw[h];congr 1<;>(funext y;first | rfl | exact qfi (q1if d) d y)
abbrev q1ii:Type:=qhy×Di×Unit
abbrev q1ij:Type:=Int×Int×Int
noncomputable def q1ik (d:Nat):Ent:=⟨tysT,(orc [(q1i9 d).s]),f33,mkPl [(2,(.box [.val Riii]))] [([0],[1,2,4]),([1],[2,4,5,6]),([2],[2,4,5,15]),([3,4],[4])] [] [],d,33,[.row qhx true,.row Ri false],(.agg [.undef,.undef,.undef]),[.i .i64,.i .i64,.i .i64]⟩
theorem q1il (d:Nat):COK prog (q1ik d).s:=Ent.k mixed tys (qeo (ac1 (q1ia d) ac0)) ⟨by kernel_rfl,by kernel_rfl,by kernel_rfl⟩
noncomputable def q1im (d:Nat) (x:q1ii):Option q1ij:=(q1ik d).F x
def q1in (d:Nat):q1ii->Option q1ij:=fun ((xAa,_),(xBa,_),_) =>
 (obnd (q1ib d ((xAa,()),(xBa,()),(),())) fun (r1a,r1b)=>(bif (!r1b) then some ((-1:Int),0,0) else (obif (inB r1a xAa.length) (let e2:=(elt ziii xAa r1a.toNat);some (e2.1,e2.2.1,e2.2.2.1)) none)))
theorem q1io (d:Nat) (x:q1ii):q1im d x=q1in d x:=by kernel_rfl
abbrev q1ip:Type:=Diii×Diii×Unit
abbrev q1iq:Type:=Int×Int×Int
noncomputable def q1ir (d:Nat):Ent:=⟨tysT,(orc [quq (qus d),qtg (qti d)]),f150,mkPl [] [([0],[2,3,4]),([1],[2,3,4,6]),([2],[2,3,4,12]),([4],[2,3,4,19]),([5,6],[4,5])] [] [],d,150,[.row Riii true,.row Riii true],(.tup [(.agg [.undef,.undef]),.undef]),[.i .i64,.i .i64,.i .i64]⟩
theorem q1is (d:Nat):COK prog (q1ir d).s:=Ent.k mixed tys (qeo (ac1 (quu d) (ac1 (qtk d) ac0))) ⟨by kernel_rfl,by kernel_rfl,by kernel_rfl⟩
noncomputable def q1it (d:Nat) (x:q1ip):Option q1iq:=(q1ir d).F x
def q1iu (d:Nat):q1ip->Option q1iq:=fun ((xAa,xAb,xAc,_),(xBa,xBb,xBc,_),_) =>
 (obnd (qus d ((xAa,xAb,xAc,()),(xBa,xBb,xBc,()),(0,1,()),())) fun r1=>(bif (r1 != 0) then none else (bif (xAc==xBc) then some (0,0,6) else (obnd (qti d (((wi (xAb-xBb)),()),((wi (xBc-xAc)),()),())) fun (r4a,r4b,r4c)=>some (r4a,r4b,r4c)))))
theorem q1iv (d:Nat) (x:q1ip):q1it d x=q1iu d x:=by kernel_rfl
abbrev q1iw:Type:=Diii×Diii×Dii×Unit
abbrev q1ix:Type:=Int×Int×Bool×Int
noncomputable def q1iy (d:Nat):Ent:=⟨tysT,(orc [quq (qus d),qz1 (qz3 d),(q1ir d).s]),f93,mkPl [] [([0],[3,4,5,6]),([1],[3,4,5,6,9]),([2],[3,4,5,6,17]),([4],[3,4,5,6,24]),([5,7,9],[6,7,8]),([6],[3,4,6,30]),([8],[6,10,11])] [] [],d,93,[.row Riii true,.row Riii true,.row Rii true],(.tup [(.agg [.undef,.undef]),.undef,.undef]),[.i .i64,.i .i64,.bo,.i .i64]⟩
theorem q1iz (d:Nat):COK prog (q1iy d).s:=Ent.k mixed tys (qeo (ac1 (quu d) (ac1 (qz5 d) (ac1 (q1is d) ac0)))) ⟨by kernel_rfl,by kernel_rfl,by kernel_rfl⟩
noncomputable def q1j0 (d:Nat) (x:q1iw):Option q1ix:=(q1iy d).F x
def q1j1 (d:Nat):q1iw->Option q1ix:=fun ((xAa,xAb,xAc,_),(xBa,xBb,xBc,_),(xCa,xCb,_),_) =>
 (obnd (qus d ((xAa,xAb,xAc,()),(xBa,xBb,xBc,()),(xCa,xCb,()),())) fun r1=>(bif (r1 != 0) then none else (obnd (qz3 d ((xBa,xBb,xBc,()),(xAa,xAb,xAc,()),(xCa,xCb,()),())) fun r2=>(bif (decide (r2>0)) then some (xCa,xCb,true,0) else (bif (decide (xBc<=xAc)) then some (0,0,false,0) else (obnd (q1it d ((xAa,xAb,xAc,()),(xBa,xBb,xBc,()),())) fun (r3a,r3b,r3c)=>(some (r3a,r3b,(r3c==0),r3c))))))))
theorem q1j2 (d:Nat) (x:q1iw):q1j0 d x=q1j1 d x:=by kernel_rfl
abbrev q1j3:Type:=qhy×Dii×Dii×Unit
abbrev q1j4:Type:=Int×Int×Bool×Int
noncomputable def q1j5 (d:Nat):Ent:=⟨tysT,(orc [(q1ik d).s,(q1iy d).s]),f35,mkPl [(3,(.box [.val Riii]))] [([0],[3,4,5,6]),([1],[6,7,8])] [] [],d,35,[.row qhx true,.row Rii true,.row Rii true],(.tup [(.agg [.undef,.undef]),.undef,.undef]),[.i .i64,.i .i64,.bo,.i .i64]⟩
theorem q1j6 (d:Nat):COK prog (q1j5 d).s:=Ent.k mixed tys (qeo (ac1 (q1il d) (ac1 (q1iz d) ac0))) ⟨by kernel_rfl,by kernel_rfl,by kernel_rfl⟩
noncomputable def q1j7 (d:Nat) (x:q1j3):Option q1j4:=(q1j5 d).F x
def q1j8 (d:Nat):q1j3->Option q1j4:=fun ((xAa,_),(xBa,xBb,_),(xCa,xCb,_),_) =>
 (obnd (q1im d ((xAa,()),(xBb,()),())) fun (r1a,r1b,r1c)=>(obnd (q1im d ((xAa,()),(xBa,()),())) fun (r2a,r2b,r2c)=>(obnd (q1j0 d ((r1a,r1b,r1c,()),(r2a,r2b,r2c,()),(xCa,xCb,()),())) fun (r3a,r3b,r3c,r3d)=>some (r3a,r3b,r3c,r3d))))
theorem q1j9 (d:Nat) (x:q1j3):q1j7 d x=q1j8 d x:=by kernel_rfl
abbrev q1ja:Type:=qiv×Unit
abbrev q1jb:Type:=Int
noncomputable def q1jc (d:Nat):Ent:=⟨tysT,(orc [qv8 (qva d),qsy (qt0 d),(q1j5 d).s,(q1en d).s,(q18o d).s]),f31,mkPl [(1,(.box [.any,.any,.val Riii,.any,.val Riii,.val Ri,.val Rb,.val Ri,.val qil,.val Ri,.val Riii])),(5,(.val Riii)),(24,(.own Ri)),(52,(.val Riii))] [([0],[1]),([1,6],[1,24,25,26]),([2],[1,24,25,26,27]),([3],[1,4,24,25,26]),([4],[1,24,25,26,31]),([7],[1,47]),([9],[1,5]),([10,22,23],[1,5,52,53,54]),([11],[1,5,52,53,54,55]),([12],[1,5,7,52,53,54]),([13],[1,5,7,8,9,10,52,53,54]),([14],[1,5,7,8,9,52,53,54,70]),([16],[1,5,7,8,52,53,54,72]),([17],[1,5,7,8,52,53,54,84]),([19],[1,5,7,8,11,52,53,54]),([20],[1,5,52,53,54,126]),([24],[132]),([26],[2])] [] [(11,[1,5,52,53,54]),(2,[1,24,25,26])],d,31,[.row qiu true],.undef,[.i .i64]⟩
theorem q1jd (d:Nat):COK prog (q1jc d).s:=Ent.k mixed tys (qeo (ac1 (qvc d) (ac1 (qt2 d) (ac1 (q1j6 d) (ac1 (q1eo d) (ac1 (q18p d) ac0)))))) ⟨by kernel_rfl,by kernel_rfl,by kernel_rfl⟩
noncomputable def q1je (d:Nat) (x:q1ja):Option q1jb:=(q1jc d).F x
abbrev q1jf:Type:=List Diii×List Diii×Int×Int×Int×Int×List Diii×Int×List Diii×List Di×List Db×List Di×List qim×List Di×List Diii
abbrev q1jg:Type:=Int×Int×Int×Int×List Diii×Int×List Diii×List Di×List Db×List Di×List qim×List Di×List Diii×List Di
def q1jh (d:Nat) (self2:q1jf->Option q1jb):(List Diii×List Diii×Int×Int×Int×Int×List Diii×Int×List Diii×List Di×List Db×List Di×List qim×List Di×List Diii)->Option q1jb:=fun (ya,yb,yc,yd,ye,yf,yg,yh,yi,yj,yk,yl,ym,yn,yo) =>
 (self2 (ya,yb,yc,(wi (yd+1)),ye,yf,yg,yh,yi,yj,yk,yl,ym,yn,yo))
def q1ji (d:Nat) (self2:q1jf->Option q1jb):(List Diii×List Diii×Int×Int×Bool×Int×Int×List Diii×Int×List Diii×List Di×List Db×List Di×List qim×List Di×List Diii)->Option q1jb:=fun (ya,yb,yc,yd,ye,yf,yg,yh,yi,yj,yk,yl,ym,yn,yo,yp) =>
 (bif ye then none else (obif (decide (0<=1)&&decide (1<=(ya.length:Int))) (q1jh d self2 ((List.drop 1 ya),yb,yc,yd,yf,yg,yh,yi,yj,yk,yl,ym,yn,yo,yp)) none))
def q1jj (d:Nat) (self2:q1jf->Option q1jb):(List Diii×List Diii×Int×Int×Bool×Int×Int×List Diii×Int×List Diii×List Di×List Db×List Di×List qim×List Di×List Diii×Int×Int×Int×Int×Int)->Option q1jb:=fun (ya,yb,yc,yd,ye,yf,yg,yh,yi,yj,yk,yl,ym,yn,yo,yp,yq,_,_,yt,yu) =>
 (bif ye then none else (obif (inB 0 ya.length) (let e7:=(elt ziii ya 0);(obif (decide (e7.2.1<0)) (q1ji d self2 (ya,yb,yc,yd,true,yf,yg,yh,yi,yj,yk,yl,ym,yn,yo,yp)) (obif (decide (e7.2.1≥200)) (q1ji d self2 (ya,yb,yc,yd,true,yf,yg,yh,yi,yj,yk,yl,ym,yn,yo,yp)) (obif (inB e7.2.1 yo.length) (obif (decide ((elt zi yo (e7.2.1).toNat).1<0)) (q1ji d self2 (ya,yb,yc,yd,true,yf,yg,yh,yi,yj,yk,yl,ym,yn,yo,yp)) (obif (inB e7.2.1 yo.length) (let e9:=(elt zi yo (e7.2.1).toNat);(obif (inB e9.1 yn.length) (let e10:=(elt qin yn (e9.1).toNat);(q1ji d self2 (ya,yb,yc,yd,(!((e10.1==yt)&&((e10.2.1==yu)&&((e10.2.2.1==yq)&&((e10.2.2.2.1==e7.2.1)&&((e10.2.2.2.2.1==e7.2.2.1)&&true)))))),yf,yg,yh,yi,yj,yk,yl,ym,yn,yo,yp))) none)) none)) none)))) none))
def q1jk (d:Nat) (self2:q1jf->Option q1jb):q1jf->Option q1jb:=fun (x2a,x2b,x2c,x2d,x2e,x2f,x2g,x2h,x2i,x2j,x2k,x2l,x2m,x2n,x2o) =>
 (bif (decide (x2d<x2c)) then (obif (inB x2d x2b.length) (let e5:=(elt ziii x2b x2d.toNat);(obnd (q1j7 d ((x2g,()),(e5.2.1,e5.2.2.1,()),(x2e,x2f,()),())) fun (r6a,r6b,r6c,r6d)=>(bif (r6d != 0) then none else (bif (!r6c) then (q1jh d self2 (x2a,x2b,x2c,x2d,x2e,x2f,x2g,x2h,x2i,x2j,x2k,x2l,x2m,x2n,x2o)) else (obif ((x2a.length:Int)==0) (q1jj d self2 (x2a,x2b,x2c,x2d,true,x2e,x2f,x2g,x2h,x2i,x2j,x2k,x2l,x2m,x2n,x2o,e5.1,e5.2.1,e5.2.2.1,r6a,r6b)) (obif (inB 0 x2a.length) (q1jj d self2 (x2a,x2b,x2c,x2d,((elt ziii x2a 0).1 != e5.1),x2e,x2f,x2g,x2h,x2i,x2j,x2k,x2l,x2m,x2n,x2o,e5.1,e5.2.1,e5.2.2.1,r6a,r6b)) none)))))) none) else (bif (decide ((x2a.length:Int)>0)) then none else some 0))
def q1jl:q1jf->St:=fun (x2a,x2b,x2c,x2d,x2e,x2f,x2g,x2h,x2i,x2j,x2k,x2l,x2m,x2n,x2o)=>⟨[(1,.ptr 0 0),(5,.fz Riii x2a),(52,.fz Riii x2b),(53,i6 x2c),(54,i6 x2d)],[.cells [i6 x2e,i6 x2f,.fz Riii x2g,i6 x2h,.fz Riii x2i,.fz Ri x2j,.fz Rb x2k,.fz Ri x2l,.fz qil x2m,.fz Ri x2n,.fz Riii x2o]]⟩
def q1jm (d:Nat) (L2_g:q1jf->Option q1jb):(Bool×Int×Int×List Diii×Int×List Diii×List Di×List Db×List Di×List qim×List Di×List Diii)->Option q1jb:=fun (ya,yb,yc,yd,ye,yf,yg,yh,yi,yj,yk,yl) =>
 (bif ya then none else (L2_g (yl,yf,(yf.length:Int),0,yb,yc,yd,ye,yf,yg,yh,yi,yj,yk,yl)))
def q1jn (d:Nat) (L2_g:q1jf->Option q1jb) (self1:q1jg->Option q1jb):q1jg->Option q1jb:=fun (x1a,x1b,x1c,x1d,x1e,x1f,x1g,x1h,x1i,x1j,x1k,x1l,x1m,x1n) =>
 (bif (decide (x1b<x1a)) then (obif (inB x1b x1n.length) (bif ((elt zi x1n x1b.toNat).1 != 0) then none else (self1 (x1a,(wi (x1b+1)),x1c,x1d,x1e,x1f,x1g,x1h,x1i,x1j,x1k,x1l,x1m,x1n))) none) else (obif ((x1l.length:Int) != 200) (q1jm d L2_g (true,x1c,x1d,x1e,x1f,x1g,x1h,x1i,x1j,x1k,x1l,x1m)) (q1jm d L2_g (((x1k.length:Int) != (x1m.length:Int)),x1c,x1d,x1e,x1f,x1g,x1h,x1i,x1j,x1k,x1l,x1m))))
def q1jo:q1jg->St:=fun (x1a,x1b,x1c,x1d,x1e,x1f,x1g,x1h,x1i,x1j,x1k,x1l,x1m,x1n)=>⟨[(1,.ptr 0 0),(24,.rs 1),(25,i6 x1a),(26,i6 x1b)],[.cells [i6 x1c,i6 x1d,.fz Riii x1e,i6 x1f,.fz Riii x1g,.fz Ri x1h,.fz Rb x1i,.fz Ri x1j,.fz qil x1k,.fz Ri x1l,.fz Riii x1m],.rows Ri x1n]⟩
theorem q1jp (d:Nat) (self1:St->Option q1jb) (self2:St->Option q1jb) (x:q1jf):(q1jc d).b 11 [self1] self2 (q1jl x)=q1jk d (fun y=>self2 (q1jl y)) x:=by kernel_rfl
def q1jq (d:Nat) (self1:q1jg->Option q1jb) (x:q1jg):Option q1jb:=q1jn d (iter (q1jk d) d) self1 x
theorem q1jr (d:Nat) (self1:St->Option q1jb) (x:q1jg):(q1jc d).b 2 [] self1 (q1jo x)=q1jq d (fun y=>self1 (q1jo y)) x:=by
 have h:(q1jc d).b 2 [] self1 (q1jo x)=q1jn d (fun y=>iter ((q1jc d).b 11 [self1]) d (q1jl y)) (fun y=>self1 (q1jo y)) x:=by kernel_rfl
 rw[h];unfold q1jq;congr 1<;>(funext y;first | rfl | exact qfi (q1jp d self1) d y)
def q1js (d:Nat) (L1_g:q1jg->Option q1jb):q1ja->Option q1jb:=fun ((xAa,xAb,xAc,xAd,xAe,xAf,xAg,xAh,xAi,xAj,xAk,_),_) =>
 (obnd (qt0 d ((xAa,xAb,()),())) fun r1=>(obnd (qva d ((xAc,()),())) fun r2=>(obnd (q1ep d ((xAd,xAe,()),())) fun r3=>(obnd (q18q d ((xAf,xAg,xAh,xAi,xAj,()),())) fun r4=>(L1_g ((List.length ([(r1,()),(r2,()),(r3,()),(r4,())]:List Di):Int),0,xAa,xAb,xAc,xAd,xAe,xAf,xAg,xAh,xAi,xAj,xAk,([(r1,()),(r2,()),(r3,()),(r4,())]:List Di)))))))
theorem q1jt (d:Nat) (x:q1ja):q1je d x=q1js d (iter (q1jq d) d) x:=by
 have h:q1je d x=q1js d (fun y=>iter ((q1jc d).b 2 []) d (q1jo y)) x:=by kernel_rfl
 rw[h];congr 1<;>(funext y;first | rfl | exact qfi (q1jr d) d y)
abbrev q1ju:Type:=qiv×Dii×Unit
abbrev q1jv:Type:=Int×Int×List Diii×Int×List Diii×List Di×List Db×List Di×List qim×List Di×List Diii×Int×Int
noncomputable def q1jw (d:Nat):Ent:=⟨tysT,(orc [(q1jc d).s,(q1fp d).s,(q1ik d).s,(q12u d).s,(q1j5 d).s,(q1ap d).s]),f12,mkPl [(2,(.box [.any,.any,.val Riii,.any,.val Riii,.val Ri,.val Rb,.val Ri,.val qil,.val Ri,.val Riii])),(4,(.box [.any,.any,.own Riii,.any,.own Riii,.val Ri,.val Rb,.val Ri,.own qil,.own Ri,.own Riii])),(9,(.box [.any,.own Riii])),(12,(.box [.any,.any,.own Riii,.any,.own Riii,.val Ri,.val Rb,.val Ri,.own qil,.own Ri,.own Riii])),(15,(.box [.val Ri,.val Rb,.val Ri,.own qil,.own Ri]))] [([0,1],[2,3,4]),([2],[2,3,4,8]),([3],[2,3,4,21]),([5],[2,3,4,9,10,11]),([6],[2,3,4,9,10,11,37]),([8],[2,3,4,9,10,11,59]),([10],[2,3,4,9,10,66]),([12],[2,3,4,9,10,12]),([13],[2,3,4,10,12]),([14],[2,4,10,11,12,13,14]),([15],[2,4,10,12,13,14,88]),([17],[2,4,10,12,13,95]),([18],[4,10,12,15,16,17]),([19],[4,10,12,15,16,106]),([21],[4,10,12]),([22],[4,5,6])] [] [],d,12,[.row qiu true,.row Rii true],(.tup [(.agg [.undef,.undef,.undef,.undef,.undef,.undef,.undef,.undef,.undef,.undef,.undef]),.undef,.undef]),[.i .i64,.i .i64,.o Riii,.i .i64,.o Riii,.z Ri,.z Rb,.z Ri,.o qil,.o Ri,.o Riii,.i .i64,.i .i64]⟩
theorem q1jx (d:Nat):COK prog (q1jw d).s:=Ent.k mixed tys (qeo (ac1 (q1jd d) (ac1 (q1fq d) (ac1 (q1il d) (ac1 (q12v d) (ac1 (q1j6 d) (ac1 (q1aq d) ac0))))))) ⟨by kernel_rfl,by kernel_rfl,by kernel_rfl⟩
noncomputable def q1jy (d:Nat) (x:q1ju):Option q1jv:=(q1jw d).F x
def q1jz (d:Nat):(Int×Int×Int×Int×List Di×List Db×List Di×List Diii×List Diii×List qim×List Di×List Diii×Int×Int×Int×List Di×List Db×List Di×List Diii×List Diii×List qim×List Di×List Diii)->Option q1jv:=fun (ya,_,_,_,_,_,_,_,_,_,_,_,ym,yn,yo,yp,yq,yr,ys,yt,yu,yv,yw) =>
 some (ym,yn,ys,yo,yt,yp,yq,yr,yu,yv,yw,ya,0)
def q1k0 (d:Nat):(Int×Int×Bool×Int×Int×List Diii×Int×List Diii×List Di×List Db×List Di×List qim×List Di×List Diii×Int×Int×Int×Int×Int×List Di×List Db×List Di×List Diii×List Diii×List qim×List Di×List Diii×Int×List Diii)->Option q1jv:=fun (ya,yb,yc,yd,ye,yf,yg,yh,yi,yj,yk,yl,ym,yn,yo,yp,yq,yr,ys,yt,yu,yv,yw,yx,yy,yz,yaa,yab,yac) =>
 (bif yc then none else (bif (yb != 0) then none else (obnd (q12w d ((yd,ye,yf,yg,yh,yi,yj,yk,yl,ym,yn,()),())) fun (r4a,r4b,r4c,_,_,r4f,r4g,r4h,r4i,r4j,r4k)=>(obnd (q1j7 d ((yf,()),(yo,yp,()),(yd,ye,()),())) fun (r5a,r5b,r5c,r5d)=>(bif (r5d != 0) then none else (bif r5c then (obnd (q1ar d ((yi,yj,yk,yl,ym,()),(r5a,r5b,()),(ya,()),())) fun (r6a,r6b,r6c,r6d,r6e,r6f,r6g,r6h)=>(bif (r6h != 0) then none else (obif (apB r4k.length (List.length ([(ya,r6f,r6g,())]:List Diii))) (q1jz d (ya,yq,yr,ys,yt,yu,yv,yw,yx,yy,yz,yaa,r4a,r4b,yab,r6a,r6b,r6c,r4c,yac,r6d,r6e,(r4k++([(ya,r6f,r6g,())]:List Diii)))) none))) else (q1jz d (ya,yq,yr,ys,yt,yu,yv,yw,yx,yy,yz,yaa,r4a,r4b,yab,r4f,r4g,r4h,r4c,yac,r4i,r4j,r4k))))))))
def q1k1 (d:Nat):q1ju->Option q1jv:=fun ((xAa,xAb,xAc,xAd,xAe,xAf,xAg,xAh,xAi,xAj,xAk,_),(xBa,xBb,_),_) =>
 (let a1:=([]:List Di);(let a2:=([]:List Db);(let a3:=([]:List Di);(let a4:=([]:List Diii);(let a5:=([]:List Diii);(let a6:=([]:List qim);(let a7:=([]:List Di);(let a8:=([]:List Diii);(obnd (q1je d ((xAa,xAb,xAc,xAd,xAe,xAf,xAg,xAh,xAi,xAj,xAk,()),())) fun r1=>(bif (r1 != 0) then none else (obnd (q1fr d ((xAd,xAe,()),(xBa,xBb,()),())) fun (r2a,r2b,r2c,r2d)=>(bif (r2d==8) then none else (obnd (q1im d ((xAc,()),(xBa,()),())) fun (r3a,_,_)=>(obif (decide (r3a<0)) (q1k0 d (r2c,r2d,true,xAa,xAb,xAc,xAd,xAe,xAf,xAg,xAh,xAi,xAj,xAk,xBa,xBb,0,0,0,a1,a2,a3,a4,a5,a6,a7,a8,r2a,r2b)) (obnd (q1im d ((xAc,()),(xBb,()),())) fun (r4a,_,_)=>(q1k0 d (r2c,r2d,(decide (r4a<0)),xAa,xAb,xAc,xAd,xAe,xAf,xAg,xAh,xAi,xAj,xAk,xBa,xBb,0,0,0,a1,a2,a3,a4,a5,a6,a7,a8,r2a,r2b)))))))))))))))))
theorem q1k2 (d:Nat) (x:q1ju):q1jy d x=q1k1 d x:=by kernel_rfl
abbrev q1k3:Type:=Diii×Di×Unit
abbrev q1k4:Type:=Int
noncomputable def q1k5 (d:Nat):Ent:=⟨tysT,(orc [(q17z d).s]),f204,mkPl [] [([0],[1,2]),([1],[4])] [] [],d,204,[.row Riii true,.row Ri false],.undef,[.i .i64]⟩
theorem q1k6 (d:Nat):COK prog (q1k5 d).s:=Ent.k mixed tys (qeo (ac1 (q180 d) ac0)) ⟨by kernel_rfl,by kernel_rfl,by kernel_rfl⟩
noncomputable def q1k7 (d:Nat) (x:q1k3):Option q1k4:=(q1k5 d).F x
def q1k8 (d:Nat):q1k3->Option q1k4:=fun ((xAa,_,_,_),(xBa,_),_) =>
 (obnd (q181 d ((xAa,()),(xBa,()),())) fun r1=>some r1)
theorem q1k9 (d:Nat) (x:q1k3):q1k7 d x=q1k8 d x:=by kernel_rfl
abbrev q1ka:Type:=qhy×Di×(Unit)×Unit
abbrev q1kb:Type:=Int×Bool
noncomputable def q1kc (d:Nat):Ent:=⟨tysT,(orc [(q1k5 d).s]),f203,mkPl [(0,(.val Riii))] [([0],[0,1,2]),([1],[0,1,2,8]),([2,6,7],[0,1,2,8,9,10]),([3],[0,1,2,8,9,10,17]),([4],[0,1,2,8,9,10,11]),([5],[0,1,2,8,9,10,11,31]),([8],[6,7])] [] [(3,[0,1,2,8,9,10])],d,203,[.row qhx false,.row Ri false,.fn 204 []],(.tup [.undef,.undef]),[.i .i64,.bo]⟩
theorem q1kd (d:Nat):COK prog (q1kc d).s:=Ent.k mixed tys (qeo (ac1 (q1k6 d) ac0)) ⟨by kernel_rfl,by kernel_rfl,by kernel_rfl⟩
noncomputable def q1ke (d:Nat) (x:q1ka):Option q1kb:=(q1kc d).F x
abbrev q1kf:Type:=List Diii×Int×Int×Int×Int
def q1kg (d:Nat) (self1:q1kf->Option q1kb):q1kf->Option q1kb:=fun (x1a,x1b,x1c,x1d,x1e) =>
 (bif (decide (x1d<x1e)) then (let a3:=(wi (shrI .u64 (IntKind.wrap .u64 (wi (x1d+x1e))) 1));(obif (inB a3 x1a.length) (let e2:=(elt ziii x1a a3.toNat);(obnd (q1k7 d ((e2.1,e2.2.1,e2.2.2.1,()),(x1b,()),())) fun r3=>(bif (decide (r3<0)) then (self1 (x1a,x1b,x1c,(wi (a3+1)),x1e)) else (self1 (x1a,x1b,x1c,x1d,a3))))) none)) else (obif (decide (x1d<x1c)) (obif (inB x1d x1a.length) (let e1:=(elt ziii x1a x1d.toNat);(obnd (q1k7 d ((e1.1,e1.2.1,e1.2.2.1,()),(x1b,()),())) fun r2=>(some (x1d,(r2==0))))) none) (some (x1d,false))))
def q1kh:q1kf->St:=fun (x1a,x1b,x1c,x1d,x1e)=>⟨[(0,.fz Riii x1a),(1,i6 x1b),(2,.fn 204 []),(8,i6 x1c),(9,i6 x1d),(10,i6 x1e)],[]⟩
theorem q1ki (d:Nat) (self1:St->Option q1kb) (x:q1kf):(q1kc d).b 3 [] self1 (q1kh x)=q1kg d (fun y=>self1 (q1kh y)) x:=by kernel_rfl
def q1kj (d:Nat) (L1_g:q1kf->Option q1kb):q1ka->Option q1kb:=fun ((xAa,_),(xBa,_),_) =>
 (let a1:=(xAa.length:Int);(L1_g (xAa,xBa,a1,0,a1)))
theorem q1kk (d:Nat) (x:q1ka):q1ke d x=q1kj d (iter (q1kg d) d) x:=by
 have h:q1ke d x=q1kj d (fun y=>iter ((q1kc d).b 3 []) d (q1kh y)) x:=by kernel_rfl
 rw[h];congr 1<;>(funext y;first | rfl | exact qfi (q1ki d) d y)
abbrev q1kl:Type:=qhy×Di×Unit
abbrev q1km:Type:=Int×Bool
noncomputable def q1kn (d:Nat):Ent:=⟨tysT,(orc [(q1kc d).s]),f158,mkPl [(0,(.val Riii))] [([0],[0,1]),([1],[4,5])] [] [],d,158,[.row qhx false,.row Ri false],(.tup [.undef,.undef]),[.i .i64,.bo]⟩
theorem q1ko (d:Nat):COK prog (q1kn d).s:=Ent.k mixed tys (qeo (ac1 (q1kd d) ac0)) ⟨by kernel_rfl,by kernel_rfl,by kernel_rfl⟩
noncomputable def q1kp (d:Nat) (x:q1kl):Option q1km:=(q1kn d).F x
def q1kq (d:Nat):q1kl->Option q1km:=fun ((xAa,_),(xBa,_),_) =>
 (obnd (q1ke d ((xAa,()),(xBa,()),(),())) fun (r1a,r1b)=>some (r1a,r1b))
theorem q1kr (d:Nat) (x:q1kl):q1kp d x=q1kq d x:=by kernel_rfl
abbrev q1ks:Type:=qiv×Di×Unit
abbrev q1kt:Type:=Int×Int×List Diii×Int×List Diii×List Di×List Db×List Di×List qim×List Di×List Diii×Int×Int×Int
noncomputable def q1ku (d:Nat):Ent:=⟨tysT,(orcC (q1cv (q1dr d)) (orc [(q12u d).s,(q1gm d).s,(q1kn d).s,(q1bd d).s])),f107,mkPl [(2,(.box [.any,.any,.val Riii,.any,.val Riii,.val Ri,.val Rb,.val Ri,.val qil,.val Ri,.val Riii])),(4,(.box [.any,.any,.own Riii,.any,.own Riii,.val Ri,.val Rb,.val Ri,.own qil,.own Ri,.own Riii])),(7,(.box [.any,.own Riii])),(10,(.box [.any,.any,.own Riii,.any,.own Riii,.val Ri,.val Rb,.val Ri,.own qil,.own Ri,.own Riii])),(13,(.box [.val Ri,.val Rb,.val Ri,.own qil,.own Ri]))] [([0],[1,2,4,5]),([1],[1,2,4,5,7,8,9]),([2],[1,2,4,5,7,8,25]),([4],[1,2,4,5,7,8,10]),([5],[1,2,4,5,8,10]),([6],[2,4,5,8,10,11,12]),([7],[2,4,5,8,10,11,40]),([8],[4,5,8,10,11,13,15]),([9],[4,5,8,10,11,13,55]),([11],[4,5,8,10]),([12],[4,5,6])] [] [],d,107,[.row qiu true,.row Ri false],(.tup [(.agg [.undef,.undef,.undef,.undef,.undef,.undef,.undef,.undef,.undef,.undef,.undef]),(.agg [.undef,.undef]),.undef]),[.i .i64,.i .i64,.o Riii,.i .i64,.o Riii,.z Ri,.z Rb,.z Ri,.o qil,.o Ri,.o Riii,.i .i64,.i .i64,.i .i64]⟩
theorem q1kv (d:Nat):COK prog (q1ku d).s:=Ent.k mixed tys (qfn (q1ds d) rfl (qeo (ac1 (q12v d) (ac1 (q1gn d) (ac1 (q1ko d) (ac1 (q1be d) ac0)))))) ⟨by kernel_rfl,by kernel_rfl,by kernel_rfl⟩
noncomputable def q1kw (d:Nat) (x:q1ks):Option q1kt:=(q1ku d).F x
def q1kx (d:Nat):(Int×Int×Int×List Di×List Db×List Di×List Diii×List Diii×List qim×List Di×List Diii×Int×Int×Int×Int×Int×Int×Int×List Di×List Db×List Di×List Diii×List Diii×List qim×List Di×List Diii)->Option q1kt:=fun (_,_,_,_,_,_,_,_,_,_,_,_,_,yn,yo,yp,yq,yr,ys,yt,yu,yv,yw,yx,yy,yz) =>
 some (yp,yq,yv,yr,yw,ys,yt,yu,yx,yy,yz,yn,yo,0)
def q1ky (d:Nat):q1ks->Option q1kt:=fun ((xAa,xAb,xAc,xAd,xAe,xAf,xAg,xAh,xAi,xAj,xAk,_),(xBa,_),_) =>
 (let a1:=([]:List Di);(let a2:=([]:List Db);(let a3:=([]:List Di);(let a4:=([]:List Diii);(let a5:=([]:List Diii);(let a6:=([]:List qim);(let a7:=([]:List Di);(let a8:=([]:List Diii);(obnd (q1go d ((xAd,xAe,()),(xBa,()),())) fun (r1a,r1b,r1c,r1d,r1e)=>(bif (r1e != 0) then none else (obnd (q12w d ((xAa,xAb,xAc,xAd,xAe,xAf,xAg,xAh,xAi,xAj,xAk,()),())) fun (r2a,r2b,r2c,_,_,r2f,r2g,r2h,r2i,r2j,r2k)=>(obnd (q1kp d ((xAk,()),(xBa,()),())) fun (r3a,r3b)=>(bif r3b then (obif (inB r3a xAk.length) (let e4:=(elt ziii xAk r3a.toNat);(obnd (q1bf d ((xAf,xAg,xAh,xAi,xAj,()),(e4.2.1,e4.2.2.1,()),())) fun (r5a,r5b,r5c,r5d,r5e,_,_,_,_,_,r5k)=>(bif (r5k != 0) then none else (obnd (q1dr d ((),((r3a,()),((wi (r3a+1)),()),()),r2k)) fun r7=>(q1kx d (0,0,0,a1,a2,a3,a4,a5,a6,a7,a8,0,0,r1c,r1d,r2a,r2b,r1a,r5a,r5b,r5c,r2c,r1b,r5d,r5e,r7)))))) none) else (q1kx d (0,0,0,a1,a2,a3,a4,a5,a6,a7,a8,0,0,r1c,r1d,r2a,r2b,r1a,r2f,r2g,r2h,r2c,r1b,r2i,r2j,r2k)))))))))))))))
theorem q1kz (d:Nat) (x:q1ks):q1kw d x=q1ky d x:=by kernel_rfl
abbrev q1l0:Type:=qiv×Di×Unit
abbrev q1l1:Type:=Int×Int×List Diii×Int×List Diii×List Di×List Db×List Di×List qim×List Di×List Diii×Int
noncomputable def q1l2 (d:Nat):Ent:=⟨tysT,(orc [(q1jc d).s,(q1ku d).s]),f108,mkPl [(2,(.box [.any,.any,.val Riii,.any,.val Riii,.val Ri,.val Rb,.val Ri,.val qil,.val Ri,.val Riii])),(4,(.box [.any,.any,.own Riii,.any,.own Riii,.val Ri,.val Rb,.val Ri,.own qil,.own Ri,.own Riii])),(7,(.box [.any,.any,.own Riii,.any,.own Riii,.val Ri,.val Rb,.val Ri,.own qil,.own Ri,.own Riii]))] [([0],[1,2,4]),([1],[1,2,4,6]),([2],[1,2,4,13]),([4],[4,7,9]),([5],[4,5])] [] [],d,108,[.row qiu true,.row Ri false],(.tup [(.agg [.undef,.undef,.undef,.undef,.undef,.undef,.undef,.undef,.undef,.undef,.undef]),.undef]),[.i .i64,.i .i64,.o Riii,.i .i64,.o Riii,.z Ri,.z Rb,.z Ri,.o qil,.o Ri,.o Riii,.i .i64]⟩
theorem q1l3 (d:Nat):COK prog (q1l2 d).s:=Ent.k mixed tys (qeo (ac1 (q1jd d) (ac1 (q1kv d) ac0))) ⟨by kernel_rfl,by kernel_rfl,by kernel_rfl⟩
noncomputable def q1l4 (d:Nat) (x:q1l0):Option q1l1:=(q1l2 d).F x
def q1l5 (d:Nat):q1l0->Option q1l1:=fun ((xAa,xAb,xAc,xAd,xAe,xAf,xAg,xAh,xAi,xAj,xAk,_),(xBa,_),_) =>
 (obnd (q1je d ((xAa,xAb,xAc,xAd,xAe,xAf,xAg,xAh,xAi,xAj,xAk,()),())) fun r1=>(bif (r1 != 0) then none else (obnd (q1kw d ((xAa,xAb,xAc,xAd,xAe,xAf,xAg,xAh,xAi,xAj,xAk,()),(xBa,()),())) fun (r2a,r2b,r2c,r2d,r2e,r2f,r2g,r2h,r2i,r2j,r2k,_,_,r2n)=>some (r2a,r2b,r2c,r2d,r2e,r2f,r2g,r2h,r2i,r2j,r2k,r2n))))
theorem q1l6 (d:Nat) (x:q1l0):q1l4 d x=q1l5 d x:=by kernel_rfl
abbrev q1l7:Type:=qiv×Unit
abbrev q1l8:Type:=Int×Int×Int×Int×Int×Int
noncomputable def q1l9 (d:Nat):Ent:=⟨tysT,(orc [(q1jc d).s,(q1bk d).s]),f18,mkPl [(1,(.box [.any,.any,.val Riii,.any,.val Riii,.val Ri,.val Rb,.val Ri,.val qil,.val Ri,.val Riii]))] [([0],[1,2]),([1],[1,2,4]),([2],[1,2,8]),([4],[2,3])] [] [],d,18,[.row qiu true],(.tup [(.agg [.undef,.undef,.undef,.undef,.undef]),.undef]),[.i .i64,.i .i64,.i .i64,.i .i64,.i .i64,.i .i64]⟩
theorem q1la (d:Nat):COK prog (q1l9 d).s:=Ent.k mixed tys (qeo (ac1 (q1jd d) (ac1 (q1bl d) ac0))) ⟨by kernel_rfl,by kernel_rfl,by kernel_rfl⟩
noncomputable def q1lb (d:Nat) (x:q1l7):Option q1l8:=(q1l9 d).F x
def q1lc (d:Nat):q1l7->Option q1l8:=fun ((xAa,xAb,xAc,xAd,xAe,xAf,xAg,xAh,xAi,xAj,xAk,_),_) =>
 (obnd (q1je d ((xAa,xAb,xAc,xAd,xAe,xAf,xAg,xAh,xAi,xAj,xAk,()),())) fun r1=>(bif (r1 != 0) then none else (obnd (q1bm d ((xAf,xAg,xAh,xAi,xAj,()),())) fun (r2a,r2b,r2c,r2d,r2e,r2f)=>some (r2a,r2b,r2c,r2d,r2e,r2f))))
theorem q1ld (d:Nat) (x:q1l7):q1lb d x=q1lc d x:=by kernel_rfl
abbrev q1le:Type:=qiv×Dii×Unit
abbrev q1lf:Type:=Bool×Int
noncomputable def q1lg (d:Nat):Ent:=⟨tysT,(orc [qsy (qt0 d),(q1jc d).s,(q1bk d).s,(q17k d).s]),f106,mkPl [(2,(.box [.any,.any,.val Riii,.any,.val Riii,.val Ri,.val Rb,.val Ri,.val qil,.val Ri,.val Riii]))] [([0],[2,3]),([1],[2,3,6]),([2],[2,3,19]),([4],[2,3,7]),([5],[2,3,29]),([7],[3,9,10]),([8],[3,9,37]),([9,11],[4,5]),([10],[11])] [] [],d,106,[.row qiu true,.row Rii true],(.tup [.undef,.undef]),[.bo,.i .i64]⟩
theorem q1lh (d:Nat):COK prog (q1lg d).s:=Ent.k mixed tys (qeo (ac1 (qt2 d) (ac1 (q1jd d) (ac1 (q1bl d) (ac1 (q17l d) ac0))))) ⟨by kernel_rfl,by kernel_rfl,by kernel_rfl⟩
noncomputable def q1li (d:Nat) (x:q1le):Option q1lf:=(q1lg d).F x
def q1lj (d:Nat):q1le->Option q1lf:=fun ((xAa,xAb,xAc,xAd,xAe,xAf,xAg,xAh,xAi,xAj,xAk,_),(xBa,xBb,_),_) =>
 (obnd (q1je d ((xAa,xAb,xAc,xAd,xAe,xAf,xAg,xAh,xAi,xAj,xAk,()),())) fun r1=>(obnd (qt0 d ((xBa,xBb,()),())) fun r2=>(bif ((tmax r1 r2) != 0) then none else (obnd (q17m d ((xBa,xBb,()),(xAa,xAb,()),())) fun (r3a,_)=>(bif (decide (r3a<0)) then none else (obnd (q1bm d ((xAf,xAg,xAh,xAi,xAj,()),())) fun (r4a,r4b,_,_,_,r4f)=>(bif (r4f != 0) then some (false,0) else (obnd (q17m d ((r4a,r4b,()),(xBa,xBb,()),())) fun (r5a,_)=>(some ((decide (r5a<=0)),0))))))))))
theorem q1lk (d:Nat) (x:q1le):q1li d x=q1lj d x:=by kernel_rfl
abbrev q1ll:Type:=qiv×Dii×Unit
abbrev q1lm:Type:=Int×Int×List Diii×Int×List Diii×List Di×List Db×List Di×List qim×List Di×List Diii×Int×Int×Int×Int×Int×Int×Int×Int
noncomputable def q1ln (d:Nat):Ent:=⟨tysT,(orc [(q1lg d).s,(q1ku d).s]),f42,mkPl [(2,(.box [.any,.any,.val Riii,.any,.val Riii,.val Ri,.val Rb,.val Ri,.val qil,.val Ri,.val Riii])),(4,(.box [.any,.any,.own Riii,.any,.own Riii,.val Ri,.val Rb,.val Ri,.own qil,.own Ri,.own Riii])),(11,(.box [.any,.any,.own Riii,.any,.own Riii,.val Ri,.val Rb,.val Ri,.own qil,.own Ri,.own Riii]))] [([0],[2,3,4,5,6]),([1],[2,4,5,6,8,9]),([2],[2,4,5,6,9,24]),([3],[2,4,5,6,9]),([4],[2,4,5,6,9,26]),([5,11],[4,5,6,7]),([6],[2,4,5,6,10]),([7],[4,5,6,9,10,11,12]),([8],[4,5,6,10,11,12,45]),([10],[4,5,6,10,11,12])] [] [],d,42,[.row qiu true,.row Rii true],(.tup [(.agg [.undef,.undef,.undef,.undef,.undef,.undef,.undef,.undef,.undef,.undef,.undef]),(.agg [.undef,.undef,.undef,.undef,.undef]),(.agg [.undef,.undef]),.undef]),[.i .i64,.i .i64,.o Riii,.i .i64,.o Riii,.z Ri,.z Rb,.z Ri,.o qil,.o Ri,.o Riii,.i .i64,.i .i64,.i .i64,.i .i64,.i .i64,.i .i64,.i .i64,.i .i64]⟩
theorem q1lo (d:Nat):COK prog (q1ln d).s:=Ent.k mixed tys (qeo (ac1 (q1lh d) (ac1 (q1kv d) ac0))) ⟨by kernel_rfl,by kernel_rfl,by kernel_rfl⟩
noncomputable def q1lp (d:Nat) (x:q1ll):Option q1lm:=(q1ln d).F x
def q1lq (d:Nat):(Int×Int×Int×List Diii×Int×List Diii×List Di×List Db×List Di×List qim×List Di×List Diii×Int×Int×Int×List Di×List Db×List Di×List Diii×List Diii×List qim×List Di×List Diii×Int×Int×Int×Int×Int×Int×Int)->Option q1lm:=fun (ya,yb,yc,yd,ye,yf,yg,yh,yi,yj,yk,yl,_,_,_,_,_,_,_,_,_,_,_,_,_,_,_,_,_,_) =>
 (bif (ya != 0) then (some (0,0,([]:List Diii),0,([]:List Diii),([]:List Di),([]:List Db),([]:List Di),([]:List qim),([]:List Di),([]:List Diii),0,0,0,0,0,0,0,ya)) else (obif (inB 0 yj.length) (let e2:=(elt qin yj 0);(obnd (q1kw d ((yb,yc,yd,ye,yf,yg,yh,yi,yj,yk,yl,()),(e2.2.2.1,()),())) fun (_,_,r3c,r3d,r3e,r3f,r3g,r3h,r3i,r3j,r3k,r3l,r3m,r3n)=>(bif (r3n != 0) then none else some (e2.1,e2.2.1,r3c,r3d,r3e,r3f,r3g,r3h,r3i,r3j,r3k,e2.1,e2.2.1,e2.2.2.1,e2.2.2.2.1,e2.2.2.2.2.1,r3l,r3m,0)))) none))
def q1lr (d:Nat):(Int×Bool×Int×Int×List Diii×Int×List Diii×List Di×List Db×List Di×List qim×List Di×List Diii×Int×Int×Int×List Di×List Db×List Di×List Diii×List Diii×List qim×List Di×List Diii×Int×Int×Int×Int×Int×Int×Int)->Option q1lm:=fun (ya,yb,yc,yd,ye,yf,yg,yh,yi,yj,yk,yl,ym,yn,yo,yp,yq,yr,ys,yt,yu,yv,yw,yx,yy,yz,yaa,yab,yac,yad,yae) =>
 (bif yb then (q1lq d (6,yc,yd,ye,yf,yg,yh,yi,yj,yk,yl,ym,yn,yo,yp,yq,yr,ys,yt,yu,yv,yw,yx,yy,yz,yaa,yab,yac,yad,yae)) else (q1lq d (ya,yc,yd,ye,yf,yg,yh,yi,yj,yk,yl,ym,yn,yo,yp,yq,yr,ys,yt,yu,yv,yw,yx,yy,yz,yaa,yab,yac,yad,yae)))
def q1ls (d:Nat):q1ll->Option q1lm:=fun ((xAa,xAb,xAc,xAd,xAe,xAf,xAg,xAh,xAi,xAj,xAk,_),(xBa,xBb,_),_) =>
 (let a1:=([]:List Di);(let a2:=([]:List Db);(let a3:=([]:List Di);(let a4:=([]:List Diii);(let a5:=([]:List Diii);(let a6:=([]:List qim);(let a7:=([]:List Di);(let a8:=([]:List Diii);(obnd (q1li d ((xAa,xAb,xAc,xAd,xAe,xAf,xAg,xAh,xAi,xAj,xAk,()),(xBa,xBb,()),())) fun (r1a,r1b)=>(obif (r1b==0) (q1lr d (r1b,(!r1a),xAa,xAb,xAc,xAd,xAe,xAf,xAg,xAh,xAi,xAj,xAk,0,0,0,a1,a2,a3,a4,a5,a6,a7,a8,0,0,0,0,0,0,0)) (q1lr d (r1b,false,xAa,xAb,xAc,xAd,xAe,xAf,xAg,xAh,xAi,xAj,xAk,0,0,0,a1,a2,a3,a4,a5,a6,a7,a8,0,0,0,0,0,0,0))))))))))))
theorem q1lt (d:Nat) (x:q1ll):q1lp d x=q1ls d x:=by kernel_rfl
abbrev q1lu:Type:=qiv×Dii×Unit
abbrev q1lv:Type:=Int×Int×List Diii×Int×List Diii×List Di×List Db×List Di×List qim×List Di×List Diii×Int
noncomputable def q1lw (d:Nat):Ent:=⟨tysT,(orc [(q12u d).s,(q1lg d).s]),f43,mkPl [(2,(.box [.any,.any,.val Riii,.any,.val Riii,.val Ri,.val Rb,.val Ri,.val qil,.val Ri,.val Riii])),(4,(.box [.any,.any,.own Riii,.any,.own Riii,.own Ri,.own Rb,.own Ri,.own qil,.own Ri,.own Riii])),(8,(.box [.any,.any,.own Riii,.any,.own Riii,.own Ri,.own Rb,.own Ri,.own qil,.own Ri,.own Riii]))] [([0],[2,3,4]),([1],[2,3,4,6,7]),([2],[2,3,4,7,19]),([3],[2,3,4,7]),([4],[2,3,4,21]),([6],[3,4,8]),([7],[4,8]),([8],[4,5])] [] [],d,43,[.row qiu true,.row Rii true],(.tup [(.agg [.undef,.undef,.undef,.undef,.undef,.undef,.undef,.undef,.undef,.undef,.undef]),.undef]),[.i .i64,.i .i64,.o Riii,.i .i64,.o Riii,.o Ri,.o Rb,.o Ri,.o qil,.o Ri,.o Riii,.i .i64]⟩
theorem q1lx (d:Nat):COK prog (q1lw d).s:=Ent.k mixed tys (qeo (ac1 (q12v d) (ac1 (q1lh d) ac0))) ⟨by kernel_rfl,by kernel_rfl,by kernel_rfl⟩
noncomputable def q1ly (d:Nat) (x:q1lu):Option q1lv:=(q1lw d).F x
def q1lz (d:Nat):(Int×Int×Int×List Diii×Int×List Diii×List Di×List Db×List Di×List qim×List Di×List Diii×Int×Int×Int×Int×Int×List Diii×List Diii×List Di×List Db×List Di×List qim×List Di×List Diii)->Option q1lv:=fun (ya,yb,yc,yd,ye,yf,yg,yh,yi,yj,yk,yl,ym,yn,_,_,_,_,_,_,_,_,_,_,_) =>
 (bif (ya != 0) then none else (obnd (q12w d ((yb,yc,yd,ye,yf,yg,yh,yi,yj,yk,yl,()),())) fun (_,_,r2c,r2d,r2e,r2f,r2g,r2h,r2i,r2j,r2k)=>some (ym,yn,r2c,r2d,r2e,r2f,r2g,r2h,r2i,r2j,r2k,0)))
def q1m0 (d:Nat):(Int×Bool×Int×Int×List Diii×Int×List Diii×List Di×List Db×List Di×List qim×List Di×List Diii×Int×Int×Int×Int×Int×List Diii×List Diii×List Di×List Db×List Di×List qim×List Di×List Diii)->Option q1lv:=fun (ya,yb,yc,yd,ye,yf,yg,yh,yi,yj,yk,yl,ym,yn,yo,yp,yq,yr,ys,yt,yu,yv,yw,yx,yy,yz) =>
 (bif yb then (q1lz d (36,yc,yd,ye,yf,yg,yh,yi,yj,yk,yl,ym,yn,yo,yp,yq,yr,ys,yt,yu,yv,yw,yx,yy,yz)) else (q1lz d (ya,yc,yd,ye,yf,yg,yh,yi,yj,yk,yl,ym,yn,yo,yp,yq,yr,ys,yt,yu,yv,yw,yx,yy,yz)))
def q1m1 (d:Nat):q1lu->Option q1lv:=fun ((xAa,xAb,xAc,xAd,xAe,xAf,xAg,xAh,xAi,xAj,xAk,_),(xBa,xBb,_),_) =>
 (let a1:=([]:List Diii);(let a2:=([]:List Diii);(let a3:=([]:List Di);(let a4:=([]:List Db);(let a5:=([]:List Di);(let a6:=([]:List qim);(let a7:=([]:List Di);(let a8:=([]:List Diii);(obnd (q1li d ((xAa,xAb,xAc,xAd,xAe,xAf,xAg,xAh,xAi,xAj,xAk,()),(xBa,xBb,()),())) fun (r1a,r1b)=>(obif (r1b==0) (q1m0 d (r1b,r1a,xAa,xAb,xAc,xAd,xAe,xAf,xAg,xAh,xAi,xAj,xAk,xBa,xBb,0,0,0,a1,a2,a3,a4,a5,a6,a7,a8)) (q1m0 d (r1b,false,xAa,xAb,xAc,xAd,xAe,xAf,xAg,xAh,xAi,xAj,xAk,xBa,xBb,0,0,0,a1,a2,a3,a4,a5,a6,a7,a8))))))))))))
theorem q1m2 (d:Nat) (x:q1lu):q1ly d x=q1m1 d x:=by kernel_rfl
end
noncomputable section
abbrev q1m3:Type:=qis×Unit
abbrev q1m4:Type:=Bool
noncomputable def q1m5 (d:Nat):Ent:=⟨tysT,(orc [(q113 d).s]),f102,mkPl [(1,(.box [.val Ri,.val Rb,.val Ri,.val qil,.val Ri]))] [([0],[1]),([1],[1,3]),([2],[1,3,26]),([4,6],[1,3,4]),([5],[1,3,4,29]),([7],[1,3,4,38]),([8],[1,3,4,44]),([10],[1,3,4,5]),([11],[1,3,4,81]),([13],[2])] [] [(5,[1,3,4])],d,102,[.row qir true],.undef,[.bo]⟩
theorem q1m6 (d:Nat):COK prog (q1m5 d).s:=Ent.k mixed tys (qeo (ac1 (q114 d) ac0)) ⟨by kernel_rfl,by kernel_rfl,by kernel_rfl⟩
noncomputable def q1m7 (d:Nat) (x:q1m3):Option q1m4:=(q1m5 d).F x
abbrev q1m8:Type:=Int×Int×List Di×List Db×List Di×List qim×List Di
def q1m9 (d:Nat) (self1:q1m8->Option q1m4):(Int×Int×List Di×List Db×List Di×List qim×List Di)->Option q1m4:=fun (ya,yb,yc,yd,ye,yf,yg) =>
 (self1 (ya,(wi (yb+1)),yc,yd,ye,yf,yg))
def q1ma (d:Nat) (self1:q1m8->Option q1m4):(Int×Int×Bool×List Di×List Db×List Di×List qim×List Di)->Option q1m4:=fun (ya,yb,yc,yd,ye,yf,yg,yh) =>
 (bif yc then none else (q1m9 d self1 (ya,yb,yd,ye,yf,yg,yh)))
def q1mb (d:Nat) (self1:q1m8->Option q1m4):q1m8->Option q1m4:=fun (x1a,x1b,x1c,x1d,x1e,x1f,x1g) =>
 (bif (decide (x1b<x1a)) then (obif (inB x1b x1d.length) (bif (!(elt zb x1d x1b.toNat).1) then (obif (inB x1b x1g.length) (bif ((elt zi x1g x1b.toNat).1 != (-1:Int)) then none else (q1m9 d self1 (x1a,x1b,x1c,x1d,x1e,x1f,x1g))) none) else (obif (inB x1b x1g.length) (let e2:=(elt zi x1g x1b.toNat);(obif (decide (e2.1<0)) (q1ma d self1 (x1a,x1b,true,x1c,x1d,x1e,x1f,x1g)) (obif (decide (e2.1≥(x1f.length:Int))) (q1ma d self1 (x1a,x1b,true,x1c,x1d,x1e,x1f,x1g)) (obif (inB e2.1 x1f.length) (obif ((elt qin x1f (e2.1).toNat).2.2.2.1 != x1b) (q1ma d self1 (x1a,x1b,true,x1c,x1d,x1e,x1f,x1g)) (obif (inB e2.1 x1f.length) (let e4:=(elt qin x1f (e2.1).toNat);(obnd (q115 d ((x1c,x1d,x1e,()),(e4.2.2.2.1,e4.2.2.2.2.1,()),())) fun r5=>(q1ma d self1 (x1a,x1b,(!r5),x1c,x1d,x1e,x1f,x1g)))) none)) none)))) none)) none) else some true)
def q1mc:q1m8->St:=fun (x1a,x1b,x1c,x1d,x1e,x1f,x1g)=>⟨[(1,.ptr 0 0),(3,i6 x1a),(4,i6 x1b)],[.cells [.fz Ri x1c,.fz Rb x1d,.fz Ri x1e,.fz qil x1f,.fz Ri x1g]]⟩
def q1md (d:Nat) (L1_g:q1m8->Option q1m4):(Int×Bool×List Di×List Db×List Di×List qim×List Di)->Option q1m4:=fun (ya,yb,yc,yd,ye,yf,yg) =>
 (bif yb then none else (L1_g (ya,0,yc,yd,ye,yf,yg)))
theorem q1me (d:Nat) (self1:St->Option q1m4) (x:q1m8):(q1m5 d).b 5 [] self1 (q1mc x)=q1mb d (fun y=>self1 (q1mc y)) x:=by kernel_rfl
def q1mf (d:Nat) (L1_g:q1m8->Option q1m4):q1m3->Option q1m4:=fun ((xAa,xAb,xAc,xAd,xAe,_),_) =>
 (let a1:=(xAa.length:Int);(obif ((xAe.length:Int) != a1) (q1md d L1_g (a1,true,xAa,xAb,xAc,xAd,xAe)) (q1md d L1_g (a1,((xAd.length:Int) != (wi (a1-(xAc.length:Int)))),xAa,xAb,xAc,xAd,xAe))))
theorem q1mg (d:Nat) (x:q1m3):q1m7 d x=q1mf d (iter (q1mb d) d) x:=by
 have h:q1m7 d x=q1mf d (fun y=>iter ((q1m5 d).b 5 []) d (q1mc y)) x:=by kernel_rfl
 rw[h];congr 1<;>(funext y;first | rfl | exact qfi (q1me d) d y)
abbrev q1mh:Type:=Dbuu×Unit
abbrev q1mi:Type:=Int
noncomputable def q1mj (d:Nat):Ent:=⟨tysT,(orc []),f22,mkPl [] [([0],[1]),([1],[1,10]),([2,4,5],[2]),([3],[12])] [] [],d,22,[.row Rbuu true],.undef,[.i .i64]⟩
theorem q1mk (d:Nat):COK prog (q1mj d).s:=Ent.k mixed tys (qeo ac0) ⟨by kernel_rfl,by kernel_rfl,by kernel_rfl⟩
noncomputable def q1ml (d:Nat) (x:q1mh):Option q1mi:=(q1mj d).F x
def q1mm (d:Nat):(Bool×Bool×Int×Int)->Option q1mi:=fun (ya,yb,_,_) =>
 (bif ya then some 0 else (bif yb then some (-1:Int) else some 1))
def q1mn (d:Nat):q1mh->Option q1mi:=fun ((xAa,xAb,xAc,_),_) =>
 (obif (xAb==0) (q1mm d ((xAc==0),xAa,xAb,xAc)) (q1mm d (false,xAa,xAb,xAc)))
theorem q1mo (d:Nat) (x:q1mh):q1ml d x=q1mn d x:=by kernel_rfl
abbrev q1mp:Type:=Dbuu×Dbuu×Unit
abbrev q1mq:Type:=Int
noncomputable def q1mr (d:Nat):Ent:=⟨tysT,(orc []),f23,mkPl [] [([0],[2,3]),([1],[2,3,9]),([2],[14]),([3,4,7,8,9],[4]),([5],[2,3,19]),([6],[24])] [] [],d,23,[.row Rbuu true,.row Rbuu true],.undef,[.i .i64]⟩
theorem q1ms (d:Nat):COK prog (q1mr d).s:=Ent.k mixed tys (qeo ac0) ⟨by kernel_rfl,by kernel_rfl,by kernel_rfl⟩
noncomputable def q1mt (d:Nat) (x:q1mp):Option q1mq:=(q1mr d).F x
def q1mu (d:Nat):q1mp->Option q1mq:=fun ((_,xAb,xAc,_),(_,xBb,xBc,_),_) =>
 (bif (xAb != xBb) then (bif (decide (xAb<xBb)) then some (-1:Int) else some 1) else (bif (xAc != xBc) then (bif (decide (xAc<xBc)) then some (-1:Int) else some 1) else some 0))
theorem q1mv (d:Nat) (x:q1mp):q1mt d x=q1mu d x:=by kernel_rfl
abbrev q1mw:Type:=Dii×Dii×Unit
abbrev q1mx:Type:=Int
noncomputable def q1my (d:Nat):Ent:=⟨tysT,(orc [qsp (qsr d),(q1mj d).s,(q1mr d).s]),f8,mkPl [] [([0],[2,3]),([1],[5,6]),([2],[5,6,21]),([3],[26]),([4,5,7,8],[4]),([6],[5,6,29])] [] [],d,8,[.row Rii true,.row Rii true],.undef,[.i .i64]⟩
theorem q1mz (d:Nat):COK prog (q1my d).s:=Ent.k mixed tys (qeo (ac1 (qst d) (ac1 (q1mk d) (ac1 (q1ms d) ac0)))) ⟨by kernel_rfl,by kernel_rfl,by kernel_rfl⟩
noncomputable def q1n0 (d:Nat) (x:q1mw):Option q1mx:=(q1my d).F x
def q1n1 (d:Nat):q1mw->Option q1mx:=fun ((xAa,xAb,_),(xBa,xBb,_),_) =>
 (obnd (qsr d ((xAa,()),(xBb,()),())) fun (r1a,r1b,r1c)=>(obnd (qsr d ((xBa,()),(xAb,()),())) fun (r2a,r2b,r2c)=>(obnd (q1ml d ((r1a,r1b,r1c,()),())) fun r3=>(obnd (q1ml d ((r2a,r2b,r2c,()),())) fun r4=>(bif (r3 != r4) then (obnd (q1ml d ((r1a,r1b,r1c,()),())) fun r5=>(obnd (q1ml d ((r2a,r2b,r2c,()),())) fun r6=>(bif (decide (r5<r6)) then some (-1:Int) else some 1))) else (obnd (q1ml d ((r1a,r1b,r1c,()),())) fun r5=>(bif (decide (r5<0)) then (obnd (q1mt d ((r2a,r2b,r2c,()),(r1a,r1b,r1c,()),())) fun r6=>some r6) else (obnd (q1mt d ((r1a,r1b,r1c,()),(r2a,r2b,r2c,()),())) fun r6=>some r6))))))))
theorem q1n2 (d:Nat) (x:q1mw):q1n0 d x=q1n1 d x:=by kernel_rfl
abbrev q1n3:Type:=qim×qim×Unit
abbrev q1n4:Type:=Bool
noncomputable def q1n5 (d:Nat):Ent:=⟨tysT,(orc [(q1my d).s]),f103,mkPl [] [([0],[2,3]),([1],[2,3,5]),([2],[4])] [] [],d,103,[.row qil true,.row qil true],.undef,[.bo]⟩
theorem q1n6 (d:Nat):COK prog (q1n5 d).s:=Ent.k mixed tys (qeo (ac1 (q1mz d) ac0)) ⟨by kernel_rfl,by kernel_rfl,by kernel_rfl⟩
noncomputable def q1n7 (d:Nat) (x:q1n3):Option q1n4:=(q1n5 d).F x
def q1n8 (d:Nat):q1n3->Option q1n4:=fun ((xAa,xAb,xAc,_,_,_),(xBa,xBb,xBc,_,_,_),_) =>
 (obnd (q1n0 d ((xAa,xAb,()),(xBa,xBb,()),())) fun r1=>(obif (decide (r1<0)) (some true) (obif (r1==0) (some (decide (xAc<xBc))) (some false))))
theorem q1n9 (d:Nat) (x:q1n3):q1n7 d x=q1n8 d x:=by kernel_rfl
abbrev q1na:Type:=qis×Unit
abbrev q1nb:Type:=Int
noncomputable def q1nc (d:Nat):Ent:=⟨tysT,(orc [qt7 (qt9 d),(q10k d).s,(q1m5 d).s,(q1n5 d).s]),f39,mkPl [(1,(.box [.val Ri,.val Rb,.val Ri,.val qil,.val Ri]))] [([0],[1]),([1],[1,15]),([3,5],[1,3]),([4],[1,3,20]),([6],[1,3,4]),([7],[1,3,4,41]),([9,11],[1,3,4,5]),([10],[1,3,4,5,44]),([12],[1,3,4,5,55]),([14,16],[1,6]),([15],[1,6,60]),([17],[1,6,75]),([19],[2])] [] [(10,[1,3,4,5]),(15,[1,6]),(4,[1,3])],d,39,[.row qir true],.undef,[.i .i64]⟩
theorem q1nd (d:Nat):COK prog (q1nc d).s:=Ent.k mixed tys (qeo (ac1 (qtb d) (ac1 (q10l d) (ac1 (q1m6 d) (ac1 (q1n6 d) ac0))))) ⟨by kernel_rfl,by kernel_rfl,by kernel_rfl⟩
noncomputable def q1ne (d:Nat) (x:q1na):Option q1nb:=(q1nc d).F x
abbrev q1nf:Type:=Int×Int×List Di×List Db×List Di×List qim×List Di×Int×Int×Int×Int×Int
abbrev q1ng:Type:=Int×List Di×List Db×List Di×List qim×List Di
abbrev q1nh:Type:=Int×List Di×List Db×List Di×List qim×List Di
def q1ni (d:Nat) (self1:q1nh->Option q1nb) (self2:q1nf->Option q1nb):q1nf->Option q1nb:=fun (x2a,x2b,x2c,x2d,x2e,x2f,x2g,x2h,x2i,x2j,x2k,x2l) =>
 (bif (decide (x2b<x2a)) then (obif (inB x2b x2f.length) (bif ((elt qin x2f x2b.toNat).2.2.1==x2j) then none else (self2 (x2a,(wi (x2b+1)),x2c,x2d,x2e,x2f,x2g,x2h,x2i,x2j,x2k,x2l))) none) else (self1 ((wi (x2a+1)),x2c,x2d,x2e,x2f,x2g)))
def q1nj:q1nf->St:=fun (x2a,x2b,x2c,x2d,x2e,x2f,x2g,x2h,x2i,x2j,x2k,x2l)=>⟨[(1,.ptr 0 0),(3,i6 x2a),(4,.ptr 1 0),(5,i6 x2b)],[.cells [.fz Ri x2c,.fz Rb x2d,.fz Ri x2e,.fz qil x2f,.fz Ri x2g],.cells [i6 x2h,i6 x2i,i6 x2j,i6 x2k,i6 x2l]]⟩
def q1nk (d:Nat) (L2_g:q1nf->Option q1nb):(Int×Bool×List Di×List Db×List Di×List qim×List Di×Int×Int×Int×Int×Int)->Option q1nb:=fun (ya,yb,yc,yd,ye,yf,yg,yh,yi,yj,yk,yl) =>
 (bif yb then none else (L2_g (ya,0,yc,yd,ye,yf,yg,yh,yi,yj,yk,yl)))
def q1nl (d:Nat) (self3:q1ng->Option q1nb):q1ng->Option q1nb:=fun (x3a,x3b,x3c,x3d,x3e,x3f) =>
 (bif (decide (x3a<(x3e.length:Int))) then (obif (inB x3a x3e.length) (let e2:=(elt qin x3e x3a.toNat);(let e3:=(wi (x3a-1));(obif (2==0) none (obif (inB (wi (Int.tdiv e3 2)) x3e.length) (let e4:=(elt qin x3e (wi (Int.tdiv e3 2)).toNat);(obnd (q1n7 d ((e2.1,e2.2.1,e2.2.2.1,e2.2.2.2.1,e2.2.2.2.2.1,()),(e4.1,e4.2.1,e4.2.2.1,e4.2.2.2.1,e4.2.2.2.2.1,()),())) fun r5=>(bif r5 then none else (self3 ((wi (x3a+1)),x3b,x3c,x3d,x3e,x3f))))) none)))) none) else some 0)
def q1nm:q1ng->St:=fun (x3a,x3b,x3c,x3d,x3e,x3f)=>⟨[(1,.ptr 0 0),(6,i6 x3a)],[.cells [.fz Ri x3b,.fz Rb x3c,.fz Ri x3d,.fz qil x3e,.fz Ri x3f]]⟩
def q1nn (d:Nat) (L2_g:q1nf->Option q1nb) (L3_g:q1ng->Option q1nb) (self1:q1nh->Option q1nb):q1nh->Option q1nb:=fun (x1a,x1b,x1c,x1d,x1e,x1f) =>
 (bif (decide (x1a<(x1e.length:Int))) then (obif (inB x1a x1e.length) (let e2:=(elt qin x1e x1a.toNat);(obnd (qt9 d ((e2.1,e2.2.1,()),())) fun r3=>(obif (r3 != 0) (q1nk d L2_g (x1a,true,x1b,x1c,x1d,x1e,x1f,e2.1,e2.2.1,e2.2.2.1,e2.2.2.2.1,e2.2.2.2.2.1)) (obif (decide (e2.2.2.1<0)) (q1nk d L2_g (x1a,true,x1b,x1c,x1d,x1e,x1f,e2.1,e2.2.1,e2.2.2.1,e2.2.2.2.1,e2.2.2.2.2.1)) (q1nk d L2_g (x1a,(decide (e2.2.2.1>1000000)),x1b,x1c,x1d,x1e,x1f,e2.1,e2.2.1,e2.2.2.1,e2.2.2.2.1,e2.2.2.2.2.1)))))) none) else (L3_g (1,x1b,x1c,x1d,x1e,x1f)))
def q1no:q1nh->St:=fun (x1a,x1b,x1c,x1d,x1e,x1f)=>⟨[(1,.ptr 0 0),(3,i6 x1a)],[.cells [.fz Ri x1b,.fz Rb x1c,.fz Ri x1d,.fz qil x1e,.fz Ri x1f]]⟩
theorem q1np (d:Nat) (self1:St->Option q1nb) (self2:St->Option q1nb) (x:q1nf):(q1nc d).b 10 [self1] self2 (q1nj x)=q1ni d (fun y=>self1 (q1no y)) (fun y=>self2 (q1nj y)) x:=by kernel_rfl
theorem q1nq (d:Nat) (self1:St->Option q1nb) (self3:St->Option q1nb) (x:q1ng):(q1nc d).b 15 [self1] self3 (q1nm x)=q1nl d (fun y=>self3 (q1nm y)) x:=by kernel_rfl
def q1nr (d:Nat) (self1:q1nh->Option q1nb) (x:q1nh):Option q1nb:=q1nn d (iter (q1ni d self1) d) (iter (q1nl d) d) self1 x
theorem q1ns (d:Nat) (self1:St->Option q1nb) (x:q1nh):(q1nc d).b 4 [] self1 (q1no x)=q1nr d (fun y=>self1 (q1no y)) x:=by
 have h:(q1nc d).b 4 [] self1 (q1no x)=q1nn d (fun y=>iter ((q1nc d).b 10 [self1]) d (q1nj y)) (fun y=>iter ((q1nc d).b 15 [self1]) d (q1nm y)) (fun y=>self1 (q1no y)) x:=by kernel_rfl
 rw[h];unfold q1nr;congr 1<;>(funext y;first | rfl | exact qfi (q1np d self1) d y | exact qfi (q1nq d self1) d y)
def q1nt (d:Nat) (L1_g:q1nh->Option q1nb):q1na->Option q1nb:=fun ((xAa,xAb,xAc,xAd,xAe,_),_) =>
 (obnd (q10m d ((xAa,xAb,xAc,()),())) fun r1=>(obif (r1 != 0) (none) (obnd (q1m7 d ((xAa,xAb,xAc,xAd,xAe,()),())) fun r2=>(bif (!r2) then none else (L1_g (0,xAa,xAb,xAc,xAd,xAe))))))
theorem q1nu (d:Nat) (x:q1na):q1ne d x=q1nt d (iter (q1nr d) d) x:=by
 have h:q1ne d x=q1nt d (fun y=>iter ((q1nc d).b 4 []) d (q1no y)) x:=by kernel_rfl
 rw[h];congr 1<;>(funext y;first | rfl | exact qfi (q1ns d) d y)
abbrev q1nv:Type:=Dii×Unit
abbrev q1nw:Type:=Bool
noncomputable def q1nx (d:Nat):Ent:=⟨tysT,(orc []),f99,mkPl [] [([0],[1]),([1],[2])] [] [],d,99,[.row Rii true],.undef,[.bo]⟩
theorem q1ny (d:Nat):COK prog (q1nx d).s:=Ent.k mixed tys (qeo ac0) ⟨by kernel_rfl,by kernel_rfl,by kernel_rfl⟩
noncomputable def q1nz (d:Nat) (x:q1nv):Option q1nw:=(q1nx d).F x
def q1o0 (d:Nat):q1nv->Option q1nw:=fun ((xAa,xAb,_),_) =>
 (obif (decide (xAa≥0)) (obif (decide (xAa<=65535)) (obif (decide (xAb≥0)) (obif (decide (xAb<=65535)) (some (xAa != xAb)) (some false)) (some false)) (some false)) (some false))
theorem q1o1 (d:Nat) (x:q1nv):q1nz d x=q1o0 d x:=by kernel_rfl
abbrev q1o2:Type:=qig×Unit
abbrev q1o3:Type:=Int
noncomputable def q1o4 (d:Nat):Ent:=⟨tysT,(orc [(q1nx d).s]),f37,mkPl [(1,(.box [.any,.val Riii]))] [([0],[1]),([1],[1,19]),([3,5],[1,3]),([4],[1,3,24]),([6],[1,3,4]),([7],[1,3,4,63]),([9,11],[1,3,4,5]),([10],[1,3,4,5,66]),([12],[1,3,4,5,77]),([14],[2])] [] [(10,[1,3,4,5]),(4,[1,3])],d,37,[.row qif true],.undef,[.i .i64]⟩
theorem q1o5 (d:Nat):COK prog (q1o4 d).s:=Ent.k mixed tys (qeo (ac1 (q1ny d) ac0)) ⟨by kernel_rfl,by kernel_rfl,by kernel_rfl⟩
noncomputable def q1o6 (d:Nat) (x:q1o2):Option q1o3:=(q1o4 d).F x
abbrev q1o7:Type:=Int×Int×Int×List Diii×Int×Int×Int
abbrev q1o8:Type:=Int×Int×List Diii
def q1o9 (d:Nat) (self1:q1o8->Option q1o3) (self2:q1o7->Option q1o3):q1o7->Option q1o3:=fun (x2a,x2b,x2c,x2d,x2e,x2f,x2g) =>
 (bif (decide (x2b<x2a)) then (obif (inB x2b x2d.length) (let e3:=(elt ziii x2d x2b.toNat);(bif ((e3.2.1==x2f)&&((e3.2.2.1==x2g)&&true)) then none else (self2 (x2a,(wi (x2b+1)),x2c,x2d,x2e,x2f,x2g)))) none) else (self1 ((wi (x2a+1)),x2c,x2d)))
def q1oa:q1o7->St:=fun (x2a,x2b,x2c,x2d,x2e,x2f,x2g)=>⟨[(1,.ptr 0 0),(3,i6 x2a),(4,.ptr 1 0),(5,i6 x2b)],[.cells [i6 x2c,.fz Riii x2d],.cells [i6 x2e,i6 x2f,i6 x2g]]⟩
def q1ob (d:Nat) (L2_g:q1o7->Option q1o3):(Int×Bool×Int×List Diii×Int×Int×Int)->Option q1o3:=fun (ya,yb,yc,yd,ye,yf,yg) =>
 (bif yb then none else (L2_g (ya,0,yc,yd,ye,yf,yg)))
def q1oc (d:Nat) (L2_g:q1o7->Option q1o3) (self1:q1o8->Option q1o3):q1o8->Option q1o3:=fun (x1a,x1b,x1c) =>
 (bif (decide (x1a<(x1c.length:Int))) then (obif (inB x1a x1c.length) (let e1:=(elt ziii x1c x1a.toNat);(obnd (q1nz d ((e1.2.1,e1.2.2.1,()),())) fun r2=>(obif (!r2) (q1ob d L2_g (x1a,true,x1b,x1c,e1.1,e1.2.1,e1.2.2.1)) (obif (decide (e1.1<0)) (q1ob d L2_g (x1a,true,x1b,x1c,e1.1,e1.2.1,e1.2.2.1)) (obif (decide (e1.1≥x1b)) (q1ob d L2_g (x1a,true,x1b,x1c,e1.1,e1.2.1,e1.2.2.1)) (obif (decide (x1a>0)) (let e3:=(wi (x1a-1));(obif (inB e3 x1c.length) (q1ob d L2_g (x1a,(decide ((elt ziii x1c e3.toNat).1≥e1.1)),x1b,x1c,e1.1,e1.2.1,e1.2.2.1)) none)) (q1ob d L2_g (x1a,false,x1b,x1c,e1.1,e1.2.1,e1.2.2.1)))))))) none) else some 0)
def q1od:q1o8->St:=fun (x1a,x1b,x1c)=>⟨[(1,.ptr 0 0),(3,i6 x1a)],[.cells [i6 x1b,.fz Riii x1c]]⟩
theorem q1oe (d:Nat) (self1:St->Option q1o3) (self2:St->Option q1o3) (x:q1o7):(q1o4 d).b 10 [self1] self2 (q1oa x)=q1o9 d (fun y=>self1 (q1od y)) (fun y=>self2 (q1oa y)) x:=by kernel_rfl
def q1of (d:Nat) (self1:q1o8->Option q1o3) (x:q1o8):Option q1o3:=q1oc d (iter (q1o9 d self1) d) self1 x
theorem q1og (d:Nat) (self1:St->Option q1o3) (x:q1o8):(q1o4 d).b 4 [] self1 (q1od x)=q1of d (fun y=>self1 (q1od y)) x:=by
 have h:(q1o4 d).b 4 [] self1 (q1od x)=q1oc d (fun y=>iter ((q1o4 d).b 10 [self1]) d (q1oa y)) (fun y=>self1 (q1od y)) x:=by kernel_rfl
 rw[h];unfold q1of;congr 1<;>(funext y;first | rfl | exact qfi (q1oe d self1) d y)
def q1oh (d:Nat) (L1_g:q1o8->Option q1o3):q1o2->Option q1o3:=fun ((xAa,xAb,_),_) =>
 (obif (decide ((xAb.length:Int)>200)) (none) (obif (decide (xAa<0)) (none) (bif (decide (xAa>1000000)) then none else (L1_g (0,xAa,xAb)))))
theorem q1oi (d:Nat) (x:q1o2):q1o6 d x=q1oh d (iter (q1of d) d) x:=by
 have h:q1o6 d x=q1oh d (fun y=>iter ((q1o4 d).b 4 []) d (q1od y)) x:=by kernel_rfl
 rw[h];congr 1<;>(funext y;first | rfl | exact qfi (q1og d) d y)
abbrev q1oj:Type:=qig×qhy×Unit
abbrev q1ok:Type:=Bool
noncomputable def q1ol (d:Nat):Ent:=⟨tysT,(orc [qvq (qvs d)]),f38,mkPl [(2,(.box [.any,.val Riii])),(3,(.box [.val Riii]))] [([0],[2,3]),([1,3],[2,3,5]),([2],[2,3,5,10]),([4],[2,3,5,34]),([6],[4])] [] [(2,[2,3,5])],d,38,[.row qif true,.row qhx true],.undef,[.bo]⟩
theorem q1om (d:Nat):COK prog (q1ol d).s:=Ent.k mixed tys (qeo (ac1 (qvu d) ac0)) ⟨by kernel_rfl,by kernel_rfl,by kernel_rfl⟩
noncomputable def q1on (d:Nat) (x:q1oj):Option q1ok:=(q1ol d).F x
abbrev q1oo:Type:=Int×Int×List Diii×List Diii
def q1op (d:Nat) (self1:q1oo->Option q1ok):(Int×Bool×Int×List Diii×List Diii)->Option q1ok:=fun (ya,yb,yc,yd,ye) =>
 (bif yb then none else (self1 ((wi (ya+1)),yc,yd,ye)))
def q1oq (d:Nat) (self1:q1oo->Option q1ok):q1oo->Option q1ok:=fun (x1a,x1b,x1c,x1d) =>
 (bif (decide (x1a<(x1c.length:Int))) then (obif (inB x1a x1c.length) (obnd (qvs d ((x1d,()),((elt ziii x1c x1a.toNat).2.1,()),())) fun r2=>(obif (decide (r2<0)) (q1op d self1 (x1a,true,x1b,x1c,x1d)) (obif (inB x1a x1c.length) (obnd (qvs d ((x1d,()),((elt ziii x1c x1a.toNat).2.2.1,()),())) fun r4=>(q1op d self1 (x1a,(decide (r4<0)),x1b,x1c,x1d))) none))) none) else some true)
def q1or:q1oo->St:=fun (x1a,x1b,x1c,x1d)=>⟨[(2,.ptr 0 0),(3,.ptr 1 0),(5,i6 x1a)],[.cells [i6 x1b,.fz Riii x1c],.cells [.fz Riii x1d]]⟩
theorem q1os (d:Nat) (self1:St->Option q1ok) (x:q1oo):(q1ol d).b 2 [] self1 (q1or x)=q1oq d (fun y=>self1 (q1or y)) x:=by kernel_rfl
def q1ot (d:Nat) (L1_g:q1oo->Option q1ok):q1oj->Option q1ok:=fun ((xAa,xAb,_),(xBa,_),_) =>
 (L1_g (0,xAa,xAb,xBa))
theorem q1ou (d:Nat) (x:q1oj):q1on d x=q1ot d (iter (q1oq d) d) x:=by
 have h:q1on d x=q1ot d (fun y=>iter ((q1ol d).b 2 []) d (q1or y)) x:=by kernel_rfl
 rw[h];congr 1<;>(funext y;first | rfl | exact qfi (q1os d) d y)
abbrev q1ov:Type:=Diii×Diii×Unit
abbrev q1ow:Type:=Int×Int
noncomputable def q1ox (d:Nat):Ent:=⟨tysT,(orc [qtp (qtr d)]),f156,mkPl [] [([0],[2,3,4]),([1],[4,5]),([2],[4])] [] [],d,156,[.row Riii true,.row Riii true],(.agg [.undef,.undef]),[.i .i64,.i .i64]⟩
theorem q1oy (d:Nat):COK prog (q1ox d).s:=Ent.k mixed tys (qeo (ac1 (qtt d) ac0)) ⟨by kernel_rfl,by kernel_rfl,by kernel_rfl⟩
noncomputable def q1oz (d:Nat) (x:q1ov):Option q1ow:=(q1ox d).F x
def q1p0 (d:Nat):q1ov->Option q1ow:=fun ((_,xAb,xAc,_),(_,xBb,xBc,_),_) =>
 (obnd (qtr d (((wi (xAb-xBb)),()),((wi (xBc-xAc)),()),())) fun (r3a,r3b,_)=>some (r3a,r3b))
theorem q1p1 (d:Nat) (x:q1ov):q1oz d x=q1p0 d x:=by kernel_rfl
abbrev q1p2:Type:=Diii×Diii×Dii×Unit
abbrev q1p3:Type:=Int×Int×Bool
noncomputable def q1p4 (d:Nat):Ent:=⟨tysT,(orc [qug (qui d),(q1ox d).s]),f104,mkPl [] [([0],[3,4,5,6]),([1],[3,4,5,6,11]),([2,4,5],[6,7]),([3],[3,4,6,17])] [] [],d,104,[.row Riii true,.row Riii true,.row Rii true],(.tup [(.agg [.undef,.undef]),.undef]),[.i .i64,.i .i64,.bo]⟩
theorem q1p5 (d:Nat):COK prog (q1p4 d).s:=Ent.k mixed tys (qeo (ac1 (quk d) (ac1 (q1oy d) ac0))) ⟨by kernel_rfl,by kernel_rfl,by kernel_rfl⟩
noncomputable def q1p6 (d:Nat) (x:q1p2):Option q1p3:=(q1p4 d).F x
def q1p7 (d:Nat):q1p2->Option q1p3:=fun ((xAa,xAb,xAc,_),(xBa,xBb,xBc,_),(xCa,xCb,_),_) =>
 (obnd (qui d ((xBa,xBb,xBc,()),(xAa,xAb,xAc,()),(xCa,xCb,()),())) fun r1=>(bif r1 then some (xCa,xCb,true) else (bif (decide (xBc>xAc)) then (obnd (q1oz d ((xAa,xAb,xAc,()),(xBa,xBb,xBc,()),())) fun (r2a,r2b)=>some (r2a,r2b,true)) else some (0,0,false))))
theorem q1p8 (d:Nat) (x:q1p2):q1p6 d x=q1p7 d x:=by kernel_rfl
abbrev q1p9:Type:=qhy×Dii×Dii×Unit
abbrev q1pa:Type:=Int×Int×Bool
noncomputable def q1pb (d:Nat):Ent:=⟨tysT,(orc [qvq (qvs d),(q1p4 d).s]),f40,mkPl [(3,(.box [.val Riii]))] [([0],[3,4,5,6]),([1],[6,7])] [] [],d,40,[.row qhx true,.row Rii true,.row Rii true],(.tup [(.agg [.undef,.undef]),.undef]),[.i .i64,.i .i64,.bo]⟩
theorem q1pc (d:Nat):COK prog (q1pb d).s:=Ent.k mixed tys (qeo (ac1 (qvu d) (ac1 (q1p5 d) ac0))) ⟨by kernel_rfl,by kernel_rfl,by kernel_rfl⟩
noncomputable def q1pd (d:Nat) (x:q1p9):Option q1pa:=(q1pb d).F x
def q1pe (d:Nat):q1p9->Option q1pa:=fun ((xAa,_),(xBa,xBb,_),(xCa,xCb,_),_) =>
 (obnd (qvs d ((xAa,()),(xBb,()),())) fun r1=>(obif (inB r1 xAa.length) (let e2:=(elt ziii xAa r1.toNat);(obnd (qvs d ((xAa,()),(xBa,()),())) fun r3=>(obif (inB r3 xAa.length) (let e4:=(elt ziii xAa r3.toNat);(obnd (q1p6 d ((e2.1,e2.2.1,e2.2.2.1,()),(e4.1,e4.2.1,e4.2.2.1,()),(xCa,xCb,()),())) fun (r5a,r5b,r5c)=>some (r5a,r5b,r5c))) none))) none))
theorem q1pf (d:Nat) (x:q1p9):q1pd d x=q1pe d x:=by kernel_rfl
abbrev q1pg:Type:=qis×Dii×Unit
abbrev q1ph:Type:=Int×Int×Int×Int×Int×Int
noncomputable def q1pi (d:Nat):Ent:=⟨tysT,(orc [(q1nc d).s,(q113 d).s]),f41,mkPl [(2,(.box [.val Ri,.val Rb,.val Ri,.val qil,.val Ri]))] [([0],[2,3,4]),([1],[2,3,4,8]),([3],[2,3,4,14]),([5],[4,5])] [] [],d,41,[.row qir true,.row Rii true],(.tup [(.agg [.undef,.undef,.undef,.undef,.undef]),.undef]),[.i .i64,.i .i64,.i .i64,.i .i64,.i .i64,.i .i64]⟩
theorem q1pj (d:Nat):COK prog (q1pi d).s:=Ent.k mixed tys (qeo (ac1 (q1nd d) (ac1 (q114 d) ac0))) ⟨by kernel_rfl,by kernel_rfl,by kernel_rfl⟩
noncomputable def q1pk (d:Nat) (x:q1pg):Option q1ph:=(q1pi d).F x
def q1pl (d:Nat):q1pg->Option q1ph:=fun ((xAa,xAb,xAc,xAd,xAe,_),(xBa,xBb,_),_) =>
 (obnd (q1ne d ((xAa,xAb,xAc,xAd,xAe,()),())) fun r1=>(bif (r1 != 0) then none else (obnd (q115 d ((xAa,xAb,xAc,()),(xBa,xBb,()),())) fun r2=>(bif (!r2) then none else (obif (inB xBa xAe.length) (let e3:=(elt zi xAe xBa.toNat);(obif (inB e3.1 xAd.length) (let e4:=(elt qin xAd (e3.1).toNat);some (e4.1,e4.2.1,e4.2.2.1,e4.2.2.2.1,e4.2.2.2.2.1,0)) none)) none)))))
theorem q1pm (d:Nat) (x:q1pg):q1pk d x=q1pl d x:=by kernel_rfl
abbrev q1pn:Type:=qiv×Unit
abbrev q1po:Type:=Int
noncomputable def q1pp (d:Nat):Ent:=⟨tysT,(orc [qvh (qvj d),qt7 (qt9 d),(q1o4 d).s,(q1ol d).s,(q1nc d).s,(q1pb d).s,(q1pi d).s]),f13,mkPl [(1,(.box [.any,.any,.val Riii,.any,.val Riii,.val Ri,.val Rb,.val Ri,.val qil,.val Ri,.val Riii]))] [([0],[1]),([1],[1,56]),([3],[1,3]),([4,6,15],[1,3,4]),([5],[1,3,4,62]),([7],[1,3,4,5]),([8],[1,3,4,5,6,7]),([9],[1,3,4,5,6,82]),([10],[1,3,4,5,6,98]),([12],[1,3,4,5,6,8,9]),([13],[1,3,4,125]),([16],[132]),([18],[2])] [] [(5,[1,3,4])],d,13,[.row qiu true],.undef,[.i .i64]⟩
theorem q1pq (d:Nat):COK prog (q1pp d).s:=Ent.k mixed tys (qeo (ac1 (qvl d) (ac1 (qtb d) (ac1 (q1o5 d) (ac1 (q1om d) (ac1 (q1nd d) (ac1 (q1pc d) (ac1 (q1pj d) ac0)))))))) ⟨by kernel_rfl,by kernel_rfl,by kernel_rfl⟩
noncomputable def q1pr (d:Nat) (x:q1pn):Option q1po:=(q1pp d).F x
abbrev q1ps:Type:=Int×Int×Int×Int×List Diii×Int×List Diii×List Di×List Db×List Di×List qim×List Di×List Diii
def q1pt (d:Nat) (self1:q1ps->Option q1po):(Int×Int×Int×Int×List Diii×Int×List Diii×List Di×List Db×List Di×List qim×List Di×List Diii)->Option q1po:=fun (ya,yb,yc,yd,ye,yf,yg,yh,yi,yj,yk,yl,ym) =>
 (self1 (ya,(wi (yb+1)),yc,yd,ye,yf,yg,yh,yi,yj,yk,yl,ym))
def q1pu (d:Nat) (self1:q1ps->Option q1po):(Int×Int×Bool×Int×Int×List Diii×Int×List Diii×List Di×List Db×List Di×List qim×List Di×List Diii)->Option q1po:=fun (ya,yb,yc,yd,ye,yf,yg,yh,yi,yj,yk,yl,ym,yn) =>
 (bif yc then none else (q1pt d self1 ((wi (ya+1)),yb,yd,ye,yf,yg,yh,yi,yj,yk,yl,ym,yn)))
def q1pv (d:Nat) (self1:q1ps->Option q1po):(Int×Int×Bool×Int×Int×List Diii×Int×List Diii×List Di×List Db×List Di×List qim×List Di×List Diii×Int×Int×Int×Int×Int)->Option q1po:=fun (ya,yb,yc,yd,ye,yf,yg,yh,yi,yj,yk,yl,ym,yn,yo,_,_,yr,ys) =>
 (bif yc then none else (obif (inB ya yn.length) (let e4:=(elt ziii yn ya.toNat);(obnd (q1pk d ((yi,yj,yk,yl,ym,()),(e4.2.1,e4.2.2.1,()),())) fun (r5a,r5b,r5c,_,_,r5f)=>(obif (r5f != 0) (q1pu d self1 (ya,yb,true,yd,ye,yf,yg,yh,yi,yj,yk,yl,ym,yn)) (obif (r5c != yo) (q1pu d self1 (ya,yb,true,yd,ye,yf,yg,yh,yi,yj,yk,yl,ym,yn)) (q1pu d self1 (ya,yb,(!((r5a==yr)&&((r5b==ys)&&true))),yd,ye,yf,yg,yh,yi,yj,yk,yl,ym,yn)))))) none))
def q1pw (d:Nat) (self1:q1ps->Option q1po):q1ps->Option q1po:=fun (x1a,x1b,x1c,x1d,x1e,x1f,x1g,x1h,x1i,x1j,x1k,x1l,x1m) =>
 (bif (decide (x1b<(x1g.length:Int))) then (obif (inB x1b x1g.length) (let e2:=(elt ziii x1g x1b.toNat);(obnd (q1pd d ((x1e,()),(e2.2.1,e2.2.2.1,()),(x1c,x1d,()),())) fun (r3a,r3b,r3c)=>(bif (!r3c) then (q1pt d self1 (x1a,x1b,x1c,x1d,x1e,x1f,x1g,x1h,x1i,x1j,x1k,x1l,x1m)) else (obif (decide (x1a≥(x1m.length:Int))) (q1pv d self1 (x1a,x1b,true,x1c,x1d,x1e,x1f,x1g,x1h,x1i,x1j,x1k,x1l,x1m,e2.1,e2.2.1,e2.2.2.1,r3a,r3b)) (obif (inB x1a x1m.length) (q1pv d self1 (x1a,x1b,((elt ziii x1m x1a.toNat).1 != e2.1),x1c,x1d,x1e,x1f,x1g,x1h,x1i,x1j,x1k,x1l,x1m,e2.1,e2.2.1,e2.2.2.1,r3a,r3b)) none))))) none) else (bif (x1a != (x1m.length:Int)) then none else some 0))
def q1px:q1ps->St:=fun (x1a,x1b,x1c,x1d,x1e,x1f,x1g,x1h,x1i,x1j,x1k,x1l,x1m)=>⟨[(1,.ptr 0 0),(3,i6 x1a),(4,i6 x1b)],[.cells [i6 x1c,i6 x1d,.fz Riii x1e,i6 x1f,.fz Riii x1g,.fz Ri x1h,.fz Rb x1i,.fz Ri x1j,.fz qil x1k,.fz Ri x1l,.fz Riii x1m]]⟩
def q1py (d:Nat) (L1_g:q1ps->Option q1po):(Bool×Int×Int×List Diii×Int×List Diii×List Di×List Db×List Di×List qim×List Di×List Diii)->Option q1po:=fun (ya,yb,yc,yd,ye,yf,yg,yh,yi,yj,yk,yl) =>
 (bif ya then none else (L1_g (0,0,yb,yc,yd,ye,yf,yg,yh,yi,yj,yk,yl)))
theorem q1pz (d:Nat) (self1:St->Option q1po) (x:q1ps):(q1pp d).b 5 [] self1 (q1px x)=q1pw d (fun y=>self1 (q1px y)) x:=by kernel_rfl
def q1q0 (d:Nat) (L1_g:q1ps->Option q1po):q1pn->Option q1po:=fun ((xAa,xAb,xAc,xAd,xAe,xAf,xAg,xAh,xAi,xAj,xAk,_),_) =>
 (obnd (qt9 d ((xAa,xAb,()),())) fun r1=>(obif (r1 != 0) (q1py d L1_g (true,xAa,xAb,xAc,xAd,xAe,xAf,xAg,xAh,xAi,xAj,xAk)) (obnd (qvj d ((xAc,()),())) fun r2=>(obif (r2 != 0) (q1py d L1_g (true,xAa,xAb,xAc,xAd,xAe,xAf,xAg,xAh,xAi,xAj,xAk)) (obnd (q1o6 d ((xAd,xAe,()),())) fun r3=>(obif (r3 != 0) (q1py d L1_g (true,xAa,xAb,xAc,xAd,xAe,xAf,xAg,xAh,xAi,xAj,xAk)) (obnd (q1on d ((xAd,xAe,()),(xAc,()),())) fun r4=>(obif (!r4) (q1py d L1_g (true,xAa,xAb,xAc,xAd,xAe,xAf,xAg,xAh,xAi,xAj,xAk)) (obnd (q1ne d ((xAf,xAg,xAh,xAi,xAj,()),())) fun r5=>(obif (r5 != 0) (q1py d L1_g (true,xAa,xAb,xAc,xAd,xAe,xAf,xAg,xAh,xAi,xAj,xAk)) (obif ((xAj.length:Int) != 200) (q1py d L1_g (true,xAa,xAb,xAc,xAd,xAe,xAf,xAg,xAh,xAi,xAj,xAk)) (q1py d L1_g (((xAi.length:Int) != (xAk.length:Int)),xAa,xAb,xAc,xAd,xAe,xAf,xAg,xAh,xAi,xAj,xAk)))))))))))))
theorem q1q1 (d:Nat) (x:q1pn):q1pr d x=q1q0 d (iter (q1pw d) d) x:=by
 have h:q1pr d x=q1q0 d (fun y=>iter ((q1pp d).b 5 []) d (q1px y)) x:=by kernel_rfl
 rw[h];congr 1<;>(funext y;first | rfl | exact qfi (q1pz d) d y)
end
end Go.Proofs.YtfjjdnaggblaaaaGreat
namespace Go
open RowKit
open Go.Maps (Keyed)
structure MapT (P:Program) (t k e:TypeId):Prop where
 und:P.underlying t=some (.map k e)
 key:P.underlying k=some (.int .i64)
 elem:P.underlying e=some .bool
 zero:∀ w,(zeroValue e).run P w=.ok (.bool false) w
def wf64 (x:Int):Prop:=-9223372036854775808<=x/\x<=9223372036854775807
theorem q1q2 {x:Int} (h:wf64 x):(Lit.int .i64 x).wf=true:=by
 unfold wf64 at h
 simp only[Lit.wf,Bool.and_eq_true,decide_eq_true_eq]
 exact⟨h.1,h.2⟩
def MapB (P:Program) (k e:TypeId) (W:World) (b n:Nat) (f:Int->Bool):Prop :=
 ∃ D:DataW Unit,W.ownsMap P k (plainElem P e) b n D/\∀ x,wf64 x->D.atKey (.int .i64 x) (.lit (.bool false))=.lit (.bool (f x))
theorem MapB.congr {P:Program} {k e:TypeId} {W:World} {b n:Nat} {f g:Int->Bool} (h:MapB P k e W b n f) (hg:∀ x,f x=g x):MapB P k e W b n g:=by
 obtain⟨D,h1,h2⟩:=h
 exact⟨D,h1,fun x hx=>by rw[h2 x hx,hg]⟩
theorem MapB.lt {P:Program} {k e:TypeId} {W:World} {b n:Nat} {f:Int->Bool} (h:MapB P k e W b n f):b<W.heap.size:=h.choose_spec.1.lt
theorem MapB.bel {P:Program} {k e:TypeId} {W W':World} {b n:Nat} {f:Int->Bool} (h:MapB P k e W b n f) (hb:Bel W W'):MapB P k e W' b n f:=by
 obtain⟨D,h1,h2⟩:=h
 refine⟨D,h1.kept (row:=none) ⟨hb.os,hb.tape,hb.output,hb.size,fun k hk _=>hb.block k hk⟩ (by simp),h2⟩
theorem q1q3 (P:Program) (k e:TypeId) (w:World):MapB P k e (w.alloc (.map #[] 0)) w.heap.size 0 (fun _=>false) :=
 ⟨.map [],World.ownsMap_made w P k _,fun _ _=>rfl⟩
theorem q1q4 {P:Program} {k:TypeId} {R:Value->Option (DataW Unit×List MemPlace)} {W:World} {b n:Nat} {D:DataW Unit} (h:W.ownsMap P k R b n D):Maps.IsMap D:=by
 obtain⟨es,clock,_,_,_,hD⟩:=h;exact⟨_,hD⟩
theorem MapB.store {P:Program} {t k e:TypeId} (hT:MapT P t k e) {W:World} {b n:Nat} {f:Int->Bool} (h:MapB P k e W b n f) (hn:n<maxLen) {x:Int} (hx:wf64 x) (v:Bool) :
 ∃ w',(Instr.mapUpdate t (.map (some b)) (.int .i64 x) (.bool v)).run P W=.ok () w'/\MapB P k e w' b (n+1) (fun y=>if y=x then v else f y)/\W.grownBy w' (some b)/\W.drawn<=w'.drawn:=by
 obtain⟨D,h1,h2⟩:=h
 obtain⟨w',hrun,r1,r2⟩:=h1.update (Maps.int_keyed hT.key) hT.und hn (Maps.keyOf_int_mk hT.key (q1q2 hx)) (plainElem_bool hT.elem v)
 refine⟨w',hrun,⟨_,r1,fun y hy=>?_⟩,r2,ql1 _ _ _ _ hrun⟩
 by_cases hyx:y=x
 ·subst hyx;simp only[if_true];exact Maps.atKey_put_same (q1q4 h1) (show WideAt.IsKeyLit (.int .i64 y) from trivial) _ _
 ·simp only[if_neg hyx];rw[Maps.atKey_put_other (by intro h;injection h with _ h;exact hyx h)];exact h2 y hy
theorem MapB.look {P:Program} {t k e:TypeId} (hT:MapT P t k e) {W:World} {b n:Nat} {f:Int->Bool} (h:MapB P k e W b n f) {x:Int} (hx:wf64 x) :
 (Instr.lookup t (.map (some b)) (.int .i64 x) false).run P W=.ok (.bool (f x)) W:=by
 obtain⟨D,h1,h2⟩:=h
 obtain⟨v,ps,hrun,hv⟩:=h1.lookup (Maps.int_keyed hT.key) hT.und (hT.zero W) (plainElem_bool hT.elem false) (Maps.keyOf_int_mk hT.key (q1q2 hx))
 rw[h2 x hx]at hv
 have:v=.bool (f x):=by
  unfold plainElem at hv
  rw[hT.elem]at hv
  cases v<;>simp at hv
  rw[hv.1]
 rw[hrun,this]
section
variable {P:Program} {ops:Array Oper} {rest:List Oper} {o:Oper} {a:Act} {Q:Exit->Act->World->Prop} {w:World}
theorem q1q5 {t k e:TypeId} (hT:MapT P t k e) (hg:o.guard=none) (m x:Operand) (hop:o.op=Op.lookup t m x false) {b n:Nat} {f:Int->Bool} (h:MapB P k e w b n f) (hm:a.eval m=.map (some b)) {y:Int} (hx:a.eval x=.int .i64 y) (hy:wf64 y)
 (hK:wpList P ops Q rest (a.put o.dst (.bool (f y))) w):wpList P ops Q (o::rest) a w:=by
 refine wpList_plain hg fun K' hK'=>?_
 have hrun:=h.look hT hy
 unfold Oper.wp
 simp[execOp,hop,hm,hx,hrun,Result.andThen]
 exact hK' _ _ hK
theorem q1q6 {t k e:TypeId} (hT:MapT P t k e) (hg:o.guard=none) (m x v:Operand) (hop:o.op=Op.mapUpdate t m x v) {b n:Nat} {f:Int->Bool} (h:MapB P k e w b n f) (hn:n<maxLen) (hm:a.eval m=.map (some b)) {y:Int} (hx:a.eval x=.int .i64 y) (hy:wf64 y) {u:Bool} (hv:a.eval v=.bool u)
 (hK:∀ w',MapB P k e w' b (n+1) (fun z=>if z=y then u else f z)->w.grownBy w' (some b)->w.drawn<=w'.drawn->wpList P ops Q rest (a.put o.dst undef) w'):wpList P ops Q (o::rest) a w:=by
 refine wpList_plain hg fun K' hK'=>?_
 obtain⟨w',hrun,r1,r2,r3⟩:=h.store hT hn hy u
 unfold Oper.wp
 simp[execOp,hop,hm,hx,hv,hrun,Result.andThen]
 exact hK' _ _ (hK w' r1 r2 r3)
theorem q1q7 {t k e:TypeId} (hT:MapT P t k e) (hg:o.guard=none) (m x v:Operand) (hop:o.op=Op.insert t m x v) {b n:Nat} {f:Int->Bool} (h:MapB P k e w b n f) (hn:n<maxLen) (hm:a.eval m=.map (some b)) {y:Int} (hx:a.eval x=.int .i64 y) (hy:wf64 y) {u:Bool} (hv:a.eval v=.bool u)
 (hK:∀ w',MapB P k e w' b (n+1) (fun z=>if z=y then u else f z)->w.grownBy w' (some b)->w.drawn<=w'.drawn->wpList P ops Q rest (a.put o.dst undef) w'):wpList P ops Q (o::rest) a w:=by
 refine wpList_plain hg fun K' hK'=>?_
 obtain⟨w',hrun,r1,r2,r3⟩:=h.store hT hn hy u
 unfold Oper.wp
 simp[execOp,hop,hm,hx,hv,hrun,Result.andThen]
 exact hK' _ _ (hK w' r1 r2 r3)
end
theorem Box.grown {W W':World} {b m:Nat} {cs:Array Value} (h:Box W b cs) (hg:W.grownBy W' (some m)) (hne:b≠m):Box W' b cs:=by
 have hb:W'.heap[b]?=W.heap[b]?:=hg.block b h.lt (by simpa using hne)
 exact⟨Nat.lt_of_lt_of_le h.lt hg.size,fun j v hv=>by have:=h.eq j v hv;unfold World.cell? at this ⊢;rw[hb];exact this,fun j=>by have:=h.fr j;unfold World.frozen? at this ⊢;rw[hb];exact this⟩
end Go
namespace Go.Pel
open Go Go.RowKit
end Go.Pel
namespace Go.Proofs.YtfjjdnaggblaaaaGreat
open Go.RowKit Go.Pel
end Go.Proofs.YtfjjdnaggblaaaaGreat
namespace Go.Pel
open Go Go.RowKit
end Go.Pel
namespace Go.Proofs.YtfjjdnaggblaaaaGreat
open Go.RowKit Go.Pel
end Go.Proofs.YtfjjdnaggblaaaaGreat
namespace Go.Pel
open Go Go.RowKit
theorem q1qt {l:List Pt} {p:Pt} (h:p∈l):hasB l p.id=true:=by
 unfold hasB;rw[List.any_eq_true];exact⟨p,h,by simp⟩
theorem q1qv {l:List Pt} (h:incB l=true) {k:Nat} {p:Pt} (hk:l[k]?=some p):lowB l p.id=k:=by
 have hkl:=(List.getElem?_eq_some_iff.1 hk).1
 refine qn0 (by omega) (fun i q hi hq=>qmp h hi hq hk) ?_
 intro q hq
 rw[hk]at hq;obtain rfl:=Option.some.inj hq;exact Int.le_refl _
theorem q1r1 {l:List Pt} (h:qmq l=0) {k:Nat} {p:Pt} (hk:l[k]?=some p):qna l p.id=(l.eraseIdx k,0):=by
 have hinc:=(qmv h).2.2
 unfold qna
 rw[if_neg (by simpa using h),if_pos (q1qt (List.mem_of_getElem? hk)),q1qv hinc hk,List.eraseIdx_eq_take_drop_succ]
def insP (l:List Pt) (p:Pt):List Pt:=l.take (lowB l p.id)++p::l.drop (lowB l p.id)
theorem q65 {l:List Pt} (h:qmq l=0) {p:Pt} (hp:p.chk=0) (hb:hasB l p.id=false) (hl:l.length≠64):qn9 l p=(insP l p,0):=by
 unfold qn9
 rw[if_neg (by simpa using h),if_neg (by simpa using hp),hb,if_neg hl];rfl
def q1rr (l:List Pt) (P:List Int):Bool:=P.all fun id=>hasB l id || id == -1
end Go.Pel
namespace Go.Proofs.YtfjjdnaggblaaaaGreat
open Go.RowKit Go.Pel Go.IntWalk
end Go.Proofs.YtfjjdnaggblaaaaGreat
namespace Go.Proofs.YtfjjdnaggblaaaaGreat
open Go.RowKit Go.Pel
section
variable (A:Option Addr) (c:Nat) (l:List Pt)
end
set_option maxHeartbeats 400000 in
theorem q1sd (p:Pt) (id:Int) (w:World):Calls Tryz.prog 210 #[.agg #[.int .i64 p.id,.int .i64 p.a,.int .i64 p.b],.int .i64 id] w fun e w'=>e=.returned (.int .i64 (cmpI p.id id))/\∃ x,w'=ext w x:=by
 go_enter Tryz.func210,Tryz.ntmps210
 go_wp2_with ((go_at_call 88;refine (qr8 _ _ _).mono ?_;rintro e _ ⟨rfl,nx,rfl⟩))
 (go_ret;exact⟨qpv (by rfl),ext_of (by (try simp only[qdi]);repeat (first | exact Bel.refl _ | assumption | refine qdr ?_ _ | refine qds ?_ _ | refine Bel.ext ?_ _ | refine Bel.alloc ?_ _ | refine Bel.drewN ?_ _))⟩)
theorem q1se (p:Pt) (id v:Int) (h:cmpI p.id id=v) (w:World):Calls Tryz.prog 210 #[.agg #[.int .i64 p.id,.int .i64 p.a,.int .i64 p.b],.int .i64 id] w fun e w'=>e=.returned (.int .i64 v)/\∃ x,w'=ext w x:=h▸q1sd p id w
set_option maxRecDepth 10000 in
set_option maxHeartbeats 2000000 in
theorem q1sf (A:Option Addr) (c:Nat) (l:List Pt) (id:Int) (w:World) (hs:Sl w 3 A l.length c (vp l)) (hl:l.length<=1000000) (hinc:incB l=true) :
  Calls Tryz.prog 86 #[.slice A l.length c,.int .i64 id,.func (.func 210) #[] #[]] w fun e w'=>e=.returned (.tuple #[.int .i64 (lowB l id),.bool (hasB l id)])/\∃ x,w'=ext w x:=by
 have HI:=Lib.hid hinc;clear hinc
 go_enter Tryz.func86,Tryz.ntmps86
 go_wp2
 go_loopw [9,10] (fun i j wr=>∃ (a b:Nat),a<=b/\b<=l.length/\i=.int .i64 a/\j=.int .i64 b/\(∀ (k:Nat) (p:Pt),k<a->l[k]?=some p->p.id<id)/\(∀ (k:Nat) (p:Pt),b<=k->l[k]?=some p->id<=p.id)/\∃ y,wr=ext w y) (fun i j _=>(intOf j-intOf i).toNat)
 case atStart=>exact⟨0,l.length,Nat.zero_le _,Nat.le_refl _,rfl,rfl,(by intro k p h;omega),(by intro k p h hp;have:=(List.getElem?_eq_some_iff.1 hp).1;omega),ext_of (Bel.refl _)⟩
 case round =>
  obtain⟨a,b,hab,hbl,rfl,rfl,h1,h2,y,rfl⟩:=hrel
  have H1:=Lib.hid h1
  have H2:=Lib.hid h2
  clear h1 h2
  by_cases hlt:a<b
  ·obtain⟨m,hm1,hm2⟩:∃ m:Nat,2*m<=a+b/\a+b<=2*m+1:=⟨(a+b)/2,by omega,by omega⟩
   have hmd:((a:Int)+(b:Int))/2=(m:Int):=by omega
   obtain⟨p,hp⟩:∃ p,l[m]?=some p:=⟨_,List.getElem?_eq_getElem (by omega)⟩
   obtain⟨b0,o,rfl,hb0⟩:=hs.at_ (by omega)
   obtain⟨r0,r1,r2⟩:=qmn hs hp
   have HP:=Lib.hid hp;clear hp
   have hml:(m:Int)<(l.length:Int):=by omega
   by_cases hpi:p.id<id
   ·have e1:=Lib.hid (q1se p id (-1) (qr5 hpi))
    go_wp2_with ((go_at_call 210;refine (e1.out _).mono ?_;rintro e _ ⟨rfl,nx,rfl⟩))
    go_roundw
    case rel =>
     refine⟨m+1,b,by omega,hbl,by go_num,rfl,?_,H2.out,ext_of (by (try simp only[qdi]);repeat (first | exact Bel.refl _ | assumption | refine qdr ?_ _ | refine qds ?_ _ | refine Bel.ext ?_ _ | refine Bel.alloc ?_ _ | refine Bel.drewN ?_ _))⟩
     intro k q hk hq
     rcases Nat.lt_or_ge k m with h | h
     ·have:=qmp HI.out h hq HP.out;omega
     ·obtain rfl:k=m:=by omega
      rw[HP.out]at hq;obtain rfl:=Option.some.inj hq;exact hpi
    case measure=>(first | (simp[intOf];done) | (simp[intOf];omega))
   ·have e1:Hid (∃ v:Int,¬ v<0/\cmpI p.id id=v):=Lib.hid (by
     by_cases h:id<p.id
     ·exact⟨1,by omega,qr6 h⟩
     ·exact⟨0,by omega,qr7 (by omega)⟩)
    obtain⟨v,hv,e2⟩:=e1.out
    have e1:=Lib.hid (q1se p id v e2)
    clear e2
    go_wp2_with ((go_at_call 210;refine (e1.out _).mono ?_;rintro e _ ⟨rfl,nx,rfl⟩))
    go_roundw
    case rel =>
     refine⟨a,m,by omega,by omega,rfl,rfl,H1.out,?_,ext_of (by (try simp only[qdi]);repeat (first | exact Bel.refl _ | assumption | refine qdr ?_ _ | refine qds ?_ _ | refine Bel.ext ?_ _ | refine Bel.alloc ?_ _ | refine Bel.drewN ?_ _))⟩
     intro k q hk hq
     rcases Nat.lt_or_ge m k with h | h
     ·have:=qmp HI.out h HP.out hq;omega
     ·obtain rfl:k=m:=by omega
      rw[HP.out]at hq;obtain rfl:=Option.some.inj hq;omega
    case measure=>(first | (simp[intOf];done) | (simp[intOf];omega))
  ·obtain rfl:a=b:=by omega
   have HL:=Lib.hid (qn0 hbl H1.out (fun p hp=>H2.out a p (Nat.le_refl _) hp))
   have HH:=Lib.hid (qn3 HI.out id)
   by_cases hal:a<l.length
   ·obtain⟨p,hp⟩:∃ p,l[a]?=some p:=⟨_,List.getElem?_eq_getElem hal⟩
    obtain⟨b0,o,rfl,hb0⟩:=hs.at_ (by omega)
    obtain⟨r0,r1,r2⟩:=qmn hs hp
    have HP:=Lib.hid hp;clear hp
    have hge:=H2.out a p (Nat.le_refl _) HP.out
    have hal2:(a:Int)<(l.length:Int):=by omega
    by_cases hpi:p.id=id
    ·have e1:=Lib.hid (q1se p id 0 (qr7 hpi))
     have HB:Hid (hasB l id=true):=Lib.hid (by rw[HH.out,HL.out,HP.out];simpa using hpi)
     clear hpi
     go_wp2_with ((go_at_call 210;refine (e1.out _).mono ?_;rintro e _ ⟨rfl,nx,rfl⟩))
     go_ret2
     exact⟨by rw[HL.out,HB.out];rfl,ext_of (by (try simp only[qdi]);repeat (first | exact Bel.refl _ | assumption | refine qdr ?_ _ | refine qds ?_ _ | refine Bel.ext ?_ _ | refine Bel.alloc ?_ _ | refine Bel.drewN ?_ _))⟩
    ·have e1:=Lib.hid (q1se p id 1 (qr6 (by omega)))
     have HB:Hid (hasB l id=false):=Lib.hid (by rw[HH.out,HL.out,HP.out];simpa using hpi)
     clear hpi
     go_wp2_with ((go_at_call 210;refine (e1.out _).mono ?_;rintro e _ ⟨rfl,nx,rfl⟩))
     go_ret2
     exact⟨by rw[HL.out,HB.out];rfl,ext_of (by (try simp only[qdi]);repeat (first | exact Bel.refl _ | assumption | refine qdr ?_ _ | refine qds ?_ _ | refine Bel.ext ?_ _ | refine Bel.alloc ?_ _ | refine Bel.drewN ?_ _))⟩
   ·have HB:Hid (hasB l id=false):=Lib.hid (by rw[HH.out,HL.out,List.getElem?_eq_none (by omega)])
    go_wp2
    go_ret2
    exact⟨by rw[HL.out,HB.out];rfl,ext_of (by (try simp only[qdi]);repeat (first | exact Bel.refl _ | assumption | refine qdr ?_ _ | refine qds ?_ _ | refine Bel.ext ?_ _ | refine Bel.alloc ?_ _ | refine Bel.drewN ?_ _))⟩
set_option maxHeartbeats 400000 in
theorem q1sg (A:Option Addr) (c:Nat) (l:List Pt) (id:Int) (w:World) (hs:Sl w 3 A l.length c (vp l)) (hl:l.length<=1000000) (hinc:incB l=true) :
  Calls Tryz.prog 166 #[.agg #[.slice A l.length c],.int .i64 id] w fun e w'=>e=.returned (.tuple #[.int .i64 (lowB l id),.bool (hasB l id)])/\∃ x,w'=ext w x:=by
 have q:=Lib.hid (fun W hb=>q1sf A c l id W (hs.bel (w':=W) hb) hl hinc)
 clear hinc
 go_enter Tryz.func166,Tryz.ntmps166
 go_wp2_with ((go_at_call 86;refine (q.out _ (by (try simp only[qdi]);repeat (first | exact Bel.refl _ | assumption | refine qdr ?_ _ | refine qds ?_ _ | refine Bel.ext ?_ _ | refine Bel.alloc ?_ _ | refine Bel.drewN ?_ _))).mono ?_;rintro e _ ⟨rfl,nx,rfl⟩))
 go_ret2
 exact⟨rfl,ext_of (by (try simp only[qdi]);repeat (first | exact Bel.refl _ | assumption | refine qdr ?_ _ | refine qds ?_ _ | refine Bel.ext ?_ _ | refine Bel.alloc ?_ _ | refine Bel.drewN ?_ _))⟩
end Go.Proofs.YtfjjdnaggblaaaaGreat
namespace Go
def ExJ (J:Nat->World->Prop) (w:World):Prop:=∃ k,J k w
def allB (p:Nat->Bool) (n:Nat):Bool:=(List.range n).all p
theorem q1sh {p:Nat->Bool} {n:Nat} (h:∀ j,j<n->p j=true):allB p n=true:=by
 unfold allB;rw[List.all_eq_true];intro j hj;exact h j (by simpa using hj)
theorem q1si {p:Nat->Bool} {n k:Nat} (hk:k<n) (h:p k=false):allB p n=false:=by
 unfold allB;rw[List.all_eq_false];exact⟨k,by simpa using hk,by simp[h]⟩
end Go
namespace Go.Proofs.YtfjjdnaggblaaaaGreat
open Go.RowKit Go.Pel
set_option maxRecDepth 10000 in
set_option maxHeartbeats 1000000 in
theorem q1sj (x:Int) (cb:Nat) (mb:Nat) (w:World) (hb:Held w cb 0 (.func (.func 167) #[] #[.pointer (some ⟨mb,0,none⟩)])) (b:Bool) (R:World->Prop)
  (hF:Calls Tryz.prog 167 #[.int .i64 x,.pointer (some ⟨mb,0,none⟩)] w fun e w'=>e=.returned (.bool b)/\R w') :
  Calls Tryz.prog 209 #[.int .i64 x,.pointer (some ⟨cb,0,none⟩)] w fun e w'=>e=.returned (.bool (!b))/\R w':=by
 have c0:=hb.eq
 have c1:=hb.lt
 have q:=Lib.hid hF
 clear hF hb
 go_enter Tryz.func209,Tryz.ntmps209
 go_wp2_with (go_at_call 167;(with_reducible refine q.out.mono ?_);rintro e W2 ⟨rfl,hR⟩)
 go_ret
 exact⟨rfl,hR⟩
set_option maxRecDepth 10000 in
set_option maxHeartbeats 2000000 in
theorem q1sk (A:Option Addr) (c:Nat) (l:List Int) (cb:Nat) (mb:Nat) (J:Nat->World->Prop) (p:Nat->Bool) (w:World) (hl:l.length<=1000000) (h0:J 0 w)
  (hS:∀ k W,J k W->Sl W 1 A l.length c (vi l)) (hH:∀ k W,J k W->Held W cb 0 (.func (.func 167) #[] #[.pointer (some ⟨mb,0,none⟩)]))
  (hF:∀ k x W,l[k]?=some x->J k W->Calls Tryz.prog 167 #[.int .i64 x,.pointer (some ⟨mb,0,none⟩)] W fun e w'=>e=.returned (.bool (p k))/\J (k+1) w') :
  Calls Tryz.prog 207 #[.slice A l.length c,.func (.func 209) #[] #[.pointer (some ⟨cb,0,none⟩)]] w fun e w'=>∃ r:Int,e=.returned (.int .i64 r)/\decide (0<=r)=!(allB p l.length)/\ExJ J w':=by
 have QS:=Lib.hid hS
 have QH:=Lib.hid hH
 have QF:=Lib.hid hF
 clear hS hH hF
 go_enter Tryz.func207,Tryz.ntmps207
 go_wp2
 go_loopw [8] (fun i wr=>∃ k:Nat,k<=l.length/\i=.int .i64 k/\(∀ j,j<k->p j=true)/\J k wr) (fun i _=>l.length-(intOf i).toNat)
 case atStart=>exact⟨0,Nat.zero_le _,rfl,(fun j h=>absurd h (Nat.not_lt_zero j)),h0⟩
 case round =>
  obtain⟨k,hk,rfl,h1,hJ⟩:=hrel
  have H1:=Lib.hid h1
  clear h1
  by_cases hlt:k<l.length
  ·obtain⟨x,hx⟩:∃ x,l[k]?=some x:=⟨_,List.getElem?_eq_getElem hlt⟩
   have HX:=Lib.hid hx
   obtain⟨b,o,rfl,hb⟩:=(QS.out k wr hJ).at_ (by omega)
   have c0:=qxo (QS.out k wr hJ) hx
   have q:=Lib.hid (q1sj x cb mb wr (QH.out k wr hJ) (p k) (J (k+1)) (QF.out k x wr hx hJ))
   have hlt':(k:Int)<(l.length:Int):=by omega
   clear hx
   cases hp:p k with
   | true =>
    rw[hp]at q
    have H2:=Lib.hid hp
    clear hp hJ
    go_wp2_with (go_at_call 209;(with_reducible refine q.out.mono ?_);rintro e W2 ⟨rfl,hJ2⟩)
    go_roundw
    case rel =>
     refine⟨k+1,by omega,by go_num,?_,hJ2⟩
     intro j hj
     rcases Nat.lt_or_ge j k with h | h
     ·exact H1.out j h
     ·obtain rfl:j=k:=by omega
      exact H2.out
    case measure=>(first | (simp[intOf];done) | (simp[intOf];omega))
   | false =>
    rw[hp]at q
    have H2:=Lib.hid (q1si hlt hp)
    clear hp hJ
    go_wp2_with (go_at_call 209;(with_reducible refine q.out.mono ?_);rintro e W2 ⟨rfl,hJ2⟩)
    go_ret
    exact⟨(k:Int),rfl,by rw[H2.out];simp,⟨k+1,hJ2⟩⟩
  ·obtain rfl:k=l.length:=by omega
   have H2:=Lib.hid (q1sh H1.out)
   go_wp2
   go_ret
   exact⟨-1,rfl,by rw[H2.out];rfl,⟨_,hJ⟩⟩
set_option maxRecDepth 10000 in
set_option maxHeartbeats 1000000 in
theorem q1sl (A:Option Addr) (c:Nat) (l:List Int) (cb:Nat) (mb:Nat) (J:Nat->World->Prop) (p:Nat->Bool) (w:World) (hl:l.length<=1000000) (h0:J 0 w)
  (hS:∀ k W,J k W->Sl W 1 A l.length c (vi l)) (hH:∀ k W,J k W->Held W cb 0 (.func (.func 167) #[] #[.pointer (some ⟨mb,0,none⟩)]))
  (hF:∀ k x W,l[k]?=some x->J k W->Calls Tryz.prog 167 #[.int .i64 x,.pointer (some ⟨mb,0,none⟩)] W fun e w'=>e=.returned (.bool (p k))/\J (k+1) w') :
  Calls Tryz.prog 161 #[.slice A l.length c,.func (.func 209) #[] #[.pointer (some ⟨cb,0,none⟩)]] w fun e w'=>e=.returned (.bool (!(allB p l.length)))/\ExJ J w':=by
 have q:=Lib.hid (q1sk A c l cb mb J p w hl h0 hS hH hF)
 generalize allB p l.length=b at q ⊢
 clear hS hH hF h0 hl
 go_enter Tryz.func161,Tryz.ntmps161
 go_wp2_with (go_at_call 207;(with_reducible refine q.out.mono ?_);rintro e W2 ⟨r,rfl,hr,hJ2⟩)
 go_ret
 exact⟨by simp[hr],hJ2⟩
set_option maxRecDepth 10000 in
set_option maxHeartbeats 1000000 in
theorem q1sm (A:Option Addr) (c:Nat) (l:List Int) (mb:Nat) (J:Nat->World->Prop) (p:Nat->Bool) (w:World) (hl:l.length<=1000000)
  (h0:J 0 (w.alloc (.cells #[.func (.func 167) #[] #[.pointer (some ⟨mb,0,none⟩)]] 250)))
  (hS:∀ k W,J k W->Sl W 1 A l.length c (vi l)) (hB:∀ k W,J k W->Box W w.heap.size #[.func (.func 167) #[] #[.pointer (some ⟨mb,0,none⟩)]])
  (hF:∀ k x W,l[k]?=some x->J k W->Calls Tryz.prog 167 #[.int .i64 x,.pointer (some ⟨mb,0,none⟩)] W fun e w'=>e=.returned (.bool (p k))/\J (k+1) w') :
  Calls Tryz.prog 164 #[.slice A l.length c,.func (.func 167) #[] #[.pointer (some ⟨mb,0,none⟩)]] w fun e w'=>e=.returned (.bool (allB p l.length))/\ExJ J w':=by
 have q:=Lib.hid (q1sl A c l w.heap.size mb J p _ hl h0 hS (fun k W h=>⟨(hB k W h).lt,(hB k W h).eq 0 _ rfl,(hB k W h).fr 0⟩) hF)
 generalize allB p l.length=b at q ⊢
 clear hS hB hF h0 hl
 go_enter Tryz.func164,Tryz.ntmps164
 go_wp2_with (go_at_call 161;(with_reducible refine q.out.mono ?_);rintro e W2 ⟨rfl,hJ2⟩)
 go_ret
 exact⟨by simp,hJ2⟩
set_option maxRecDepth 10000 in
set_option maxHeartbeats 1000000 in
theorem q1sn (x:Int) (cb:Nat) (mb:Nat) (w:World) (hb:Held w cb 0 (.func (.func 165) #[] #[.pointer (some ⟨mb,0,none⟩)])) (b:Bool) (R:World->Prop)
  (hF:Calls Tryz.prog 165 #[.int .i64 x,.pointer (some ⟨mb,0,none⟩)] w fun e w'=>e=.returned (.bool b)/\R w') :
  Calls Tryz.prog 209 #[.int .i64 x,.pointer (some ⟨cb,0,none⟩)] w fun e w'=>e=.returned (.bool (!b))/\R w':=by
 have c0:=hb.eq
 have c1:=hb.lt
 have q:=Lib.hid hF
 clear hF hb
 go_enter Tryz.func209,Tryz.ntmps209
 go_wp2_with (go_at_call 165;(with_reducible refine q.out.mono ?_);rintro e W2 ⟨rfl,hR⟩)
 go_ret
 exact⟨rfl,hR⟩
set_option maxRecDepth 10000 in
set_option maxHeartbeats 2000000 in
theorem q1so (A:Option Addr) (c:Nat) (l:List Int) (cb:Nat) (mb:Nat) (J:Nat->World->Prop) (p:Nat->Bool) (w:World) (hl:l.length<=1000000) (h0:J 0 w)
  (hS:∀ k W,J k W->Sl W 1 A l.length c (vi l)) (hH:∀ k W,J k W->Held W cb 0 (.func (.func 165) #[] #[.pointer (some ⟨mb,0,none⟩)]))
  (hF:∀ k x W,l[k]?=some x->J k W->Calls Tryz.prog 165 #[.int .i64 x,.pointer (some ⟨mb,0,none⟩)] W fun e w'=>e=.returned (.bool (p k))/\J (k+1) w') :
  Calls Tryz.prog 207 #[.slice A l.length c,.func (.func 209) #[] #[.pointer (some ⟨cb,0,none⟩)]] w fun e w'=>∃ r:Int,e=.returned (.int .i64 r)/\decide (0<=r)=!(allB p l.length)/\ExJ J w':=by
 have QS:=Lib.hid hS
 have QH:=Lib.hid hH
 have QF:=Lib.hid hF
 clear hS hH hF
 go_enter Tryz.func207,Tryz.ntmps207
 go_wp2
 go_loopw [8] (fun i wr=>∃ k:Nat,k<=l.length/\i=.int .i64 k/\(∀ j,j<k->p j=true)/\J k wr) (fun i _=>l.length-(intOf i).toNat)
 case atStart=>exact⟨0,Nat.zero_le _,rfl,(fun j h=>absurd h (Nat.not_lt_zero j)),h0⟩
 case round =>
  obtain⟨k,hk,rfl,h1,hJ⟩:=hrel
  have H1:=Lib.hid h1
  clear h1
  by_cases hlt:k<l.length
  ·obtain⟨x,hx⟩:∃ x,l[k]?=some x:=⟨_,List.getElem?_eq_getElem hlt⟩
   have HX:=Lib.hid hx
   obtain⟨b,o,rfl,hb⟩:=(QS.out k wr hJ).at_ (by omega)
   have c0:=qxo (QS.out k wr hJ) hx
   have q:=Lib.hid (q1sn x cb mb wr (QH.out k wr hJ) (p k) (J (k+1)) (QF.out k x wr hx hJ))
   have hlt':(k:Int)<(l.length:Int):=by omega
   clear hx
   cases hp:p k with
   | true =>
    rw[hp]at q
    have H2:=Lib.hid hp
    clear hp hJ
    go_wp2_with (go_at_call 209;(with_reducible refine q.out.mono ?_);rintro e W2 ⟨rfl,hJ2⟩)
    go_roundw
    case rel =>
     refine⟨k+1,by omega,by go_num,?_,hJ2⟩
     intro j hj
     rcases Nat.lt_or_ge j k with h | h
     ·exact H1.out j h
     ·obtain rfl:j=k:=by omega
      exact H2.out
    case measure=>(first | (simp[intOf];done) | (simp[intOf];omega))
   | false =>
    rw[hp]at q
    have H2:=Lib.hid (q1si hlt hp)
    clear hp hJ
    go_wp2_with (go_at_call 209;(with_reducible refine q.out.mono ?_);rintro e W2 ⟨rfl,hJ2⟩)
    go_ret
    exact⟨(k:Int),rfl,by rw[H2.out];simp,⟨k+1,hJ2⟩⟩
  ·obtain rfl:k=l.length:=by omega
   have H2:=Lib.hid (q1sh H1.out)
   go_wp2
   go_ret
   exact⟨-1,rfl,by rw[H2.out];rfl,⟨_,hJ⟩⟩
set_option maxRecDepth 10000 in
set_option maxHeartbeats 1000000 in
theorem q1sp (A:Option Addr) (c:Nat) (l:List Int) (cb:Nat) (mb:Nat) (J:Nat->World->Prop) (p:Nat->Bool) (w:World) (hl:l.length<=1000000) (h0:J 0 w)
  (hS:∀ k W,J k W->Sl W 1 A l.length c (vi l)) (hH:∀ k W,J k W->Held W cb 0 (.func (.func 165) #[] #[.pointer (some ⟨mb,0,none⟩)]))
  (hF:∀ k x W,l[k]?=some x->J k W->Calls Tryz.prog 165 #[.int .i64 x,.pointer (some ⟨mb,0,none⟩)] W fun e w'=>e=.returned (.bool (p k))/\J (k+1) w') :
  Calls Tryz.prog 161 #[.slice A l.length c,.func (.func 209) #[] #[.pointer (some ⟨cb,0,none⟩)]] w fun e w'=>e=.returned (.bool (!(allB p l.length)))/\ExJ J w':=by
 have q:=Lib.hid (q1so A c l cb mb J p w hl h0 hS hH hF)
 generalize allB p l.length=b at q ⊢
 clear hS hH hF h0 hl
 go_enter Tryz.func161,Tryz.ntmps161
 go_wp2_with (go_at_call 207;(with_reducible refine q.out.mono ?_);rintro e W2 ⟨r,rfl,hr,hJ2⟩)
 go_ret
 exact⟨by simp[hr],hJ2⟩
set_option maxRecDepth 10000 in
set_option maxHeartbeats 1000000 in
theorem q1sq (A:Option Addr) (c:Nat) (l:List Int) (mb:Nat) (J:Nat->World->Prop) (p:Nat->Bool) (w:World) (hl:l.length<=1000000)
  (h0:J 0 (w.alloc (.cells #[.func (.func 165) #[] #[.pointer (some ⟨mb,0,none⟩)]] 250)))
  (hS:∀ k W,J k W->Sl W 1 A l.length c (vi l)) (hB:∀ k W,J k W->Box W w.heap.size #[.func (.func 165) #[] #[.pointer (some ⟨mb,0,none⟩)]])
  (hF:∀ k x W,l[k]?=some x->J k W->Calls Tryz.prog 165 #[.int .i64 x,.pointer (some ⟨mb,0,none⟩)] W fun e w'=>e=.returned (.bool (p k))/\J (k+1) w') :
  Calls Tryz.prog 164 #[.slice A l.length c,.func (.func 165) #[] #[.pointer (some ⟨mb,0,none⟩)]] w fun e w'=>e=.returned (.bool (allB p l.length))/\ExJ J w':=by
 have q:=Lib.hid (q1sp A c l w.heap.size mb J p _ hl h0 hS (fun k W h=>⟨(hB k W h).lt,(hB k W h).eq 0 _ rfl,(hB k W h).fr 0⟩) hF)
 generalize allB p l.length=b at q ⊢
 clear hS hB hF h0 hl
 go_enter Tryz.func164,Tryz.ntmps164
 go_wp2_with (go_at_call 161;(with_reducible refine q.out.mono ?_);rintro e W2 ⟨rfl,hJ2⟩)
 go_ret
 exact⟨by simp,hJ2⟩
set_option maxRecDepth 10000 in
set_option maxHeartbeats 1000000 in
theorem q1t3 (A:Option Addr) (c:Nat) (l:List Pt) (id:Int) (mb:Nat) (w:World) (hm:Held w mb 0 (.slice A l.length c)) (hs:Sl w 3 A l.length c (vp l)) (hl:l.length<=1000000) (hinc:incB l=true) :
  Calls Tryz.prog 165 #[.int .i64 id,.pointer (some ⟨mb,0,none⟩)] w fun e w'=>e=.returned (.bool (hasB l id || id == -1))/\∃ x,w'=ext w x:=by
 have q:=Lib.hid (fun W hb=>q1sg A c l id W (hs.bel (w':=W) hb) hl hinc)
 have c0:=hm.eq
 have c1:=hm.lt
 clear hm hinc
 cases hb:hasB l id with
 | true =>
  rw[hb]at q
  clear hb
  go_enter Tryz.func165,Tryz.ntmps165
  go_wp2_with ((go_at_call 166;refine (q.out _ (by (try simp only[qdi]);repeat (first | exact Bel.refl _ | assumption | refine qdr ?_ _ | refine qds ?_ _ | refine Bel.ext ?_ _ | refine Bel.alloc ?_ _ | refine Bel.drewN ?_ _))).mono ?_;rintro e _ ⟨rfl,nx,rfl⟩))
  (go_ret;exact⟨qpw (by simp),ext_of (by (try simp only[qdi]);repeat (first | exact Bel.refl _ | assumption | refine qdr ?_ _ | refine qds ?_ _ | refine Bel.ext ?_ _ | refine Bel.alloc ?_ _ | refine Bel.drewN ?_ _))⟩)
 | false =>
  rw[hb]at q
  clear hb
  go_enter Tryz.func165,Tryz.ntmps165
  go_wp2_with ((go_at_call 166;refine (q.out _ (by (try simp only[qdi]);repeat (first | exact Bel.refl _ | assumption | refine qdr ?_ _ | refine qds ?_ _ | refine Bel.ext ?_ _ | refine Bel.alloc ?_ _ | refine Bel.drewN ?_ _))).mono ?_;rintro e _ ⟨rfl,nx,rfl⟩))
  (go_ret;exact⟨qpw (by simp),ext_of (by (try simp only[qdi]);repeat (first | exact Bel.refl _ | assumption | refine qdr ?_ _ | refine qds ?_ _ | refine Bel.ext ?_ _ | refine Bel.alloc ?_ _ | refine Bel.drewN ?_ _))⟩)
theorem q1t4 (l:List Pt) (P:List Int):allB (fun k=>hasB l (P.getD k 0) || P.getD k 0 == -1) P.length=q1rr l P:=by
 unfold allB q1rr
 rw[Bool.eq_iff_iff,List.all_eq_true,List.all_eq_true]
 constructor
 ·intro h x hx
  obtain⟨k,hk⟩:=List.mem_iff_getElem?.1 hx
  have:=h k (by simp;exact (List.getElem?_eq_some_iff.1 hk).1)
  rwa[List.getD_eq_getElem?_getD,hk]at this
 ·intro h k hk
  have hk':k<P.length:=by simpa using hk
  have:=h P[k] (List.getElem_mem hk')
  rwa[List.getD_eq_getElem?_getD,List.getElem?_eq_getElem hk']
set_option maxRecDepth 10000 in
set_option maxHeartbeats 1000000 in
theorem q1t5 (A B:Option Addr) (c d:Nat) (l:List Pt) (P:List Int) (w:World) (hs:Sl w 3 A l.length c (vp l)) (ht:Sl w 1 B P.length d (vi P)) (hl:l.length<=1000000) (hP:P.length<=1000000) (hinc:incB l=true) :
  Calls Tryz.prog 113 #[.agg #[.slice A l.length c],.slice B P.length d] w fun e w'=>e=.returned (.bool (q1rr l P))/\∃ x,w'=ext w x:=by
 have q:=Lib.hid (q1sq B d P w.heap.size (fun _ W=>Bel ((w.alloc (.cells #[.slice A l.length c] 26)).alloc (.cells #[.func (.func 165) #[] #[.pointer (some ⟨w.heap.size,0,none⟩)]] 250)) W)
  (fun k=>hasB l (P.getD k 0) || P.getD k 0 == -1) (w.alloc (.cells #[.slice A l.length c] 26)) hP (Bel.refl _)
  (fun _ W hW=>(ht.bel (by (try simp only[qdi]);repeat (first | exact Bel.refl _ | assumption | refine qdr ?_ _ | refine qds ?_ _ | refine Bel.ext ?_ _ | refine Bel.alloc ?_ _ | refine Bel.drewN ?_ _))).bel hW)
  (fun _ W hW=>Box.new hW rfl)
  (fun k x W hx hW=>by
   have hx':P.getD k 0=x:=by rw[List.getD_eq_getElem?_getD,hx];rfl
   rw[hx']
   have hm:Held W w.heap.size 0 (.slice A l.length c):=(Held.new (W:=w) (cs:=#[.slice A l.length c]) (e:=26) (Bel.refl _) rfl).bel (Bel.trans (by (try simp only[qdi]);repeat (first | exact Bel.refl _ | assumption | refine qdr ?_ _ | refine qds ?_ _ | refine Bel.ext ?_ _ | refine Bel.alloc ?_ _ | refine Bel.drewN ?_ _)) hW)
   exact (q1t3 A c l x w.heap.size W hm ((hs.bel (by (try simp only[qdi]);repeat (first | exact Bel.refl _ | assumption | refine qdr ?_ _ | refine qds ?_ _ | refine Bel.ext ?_ _ | refine Bel.alloc ?_ _ | refine Bel.drewN ?_ _))).bel hW) hl hinc).mono fun e w' ⟨he,y,hy⟩=>⟨he,by rw[hy];exact hW.trans (qai _ _)⟩))
 rw[q1t4]at q
 clear hs ht hinc
 go_enter Tryz.func113,Tryz.ntmps113
 go_wp2_with (go_at_call 164;(with_reducible refine q.out.mono ?_);rintro e W2 ⟨rfl,k,hJ⟩)
 go_ret
 exact⟨rfl,ext_of (Bel.trans (by (try simp only[qdi]);repeat (first | exact Bel.refl _ | assumption | refine qdr ?_ _ | refine qds ?_ _ | refine Bel.ext ?_ _ | refine Bel.alloc ?_ _ | refine Bel.drewN ?_ _)) hJ)⟩
end Go.Proofs.YtfjjdnaggblaaaaGreat
namespace Go.Pel
open Go Go.RowKit
def q1t7 (l:List Int):Bool:=allB (fun k=>!(decide (0<=l.getD k 0)&&(l.take k).contains (l.getD k 0))) l.length
def q1t8 (l:List Int) (k:Nat) (x:Int):Bool:=decide (0<=x)&&(l.take k).contains x
theorem q1t9 {l:List Int} {k:Nat} {x:Int} (h:l[k]?=some x) (y:Int):(if y=x then decide (0<=x) else q1t8 l k y)=q1t8 l (k+1) y:=by
 unfold q1t8
 rw[List.take_add_one,h]
 by_cases hy:y=x
 ·subst hy;simp
 ·rw[if_neg hy];simp[hy]
end Go.Pel
namespace Go.Proofs.YtfjjdnaggblaaaaGreat
open Go.RowKit Go.Pel
theorem q1ta:MapT Tryz.prog 247 3 4:=⟨by kernel_rfl,by kernel_rfl,by kernel_rfl,fun _=>by kernel_rfl⟩
set_option maxRecDepth 10000 in
set_option maxHeartbeats 1000000 in
theorem q1tb (x:Int) (b0 b1 n:Nat) (f:Int->Bool) (w:World) (hm:MapB Tryz.prog 3 4 w b0 n f) (hb:Box w b1 #[.map (some b0)]) (hx:wf64 x) (hn:n<maxLen) :
  Calls Tryz.prog 167 #[.int .i64 x,.pointer (some ⟨b1,0,none⟩)] w fun e w'=>e=.returned (.bool (!(f x)))/\MapB Tryz.prog 3 4 w' b0 (n+1) (fun y=>if y=x then decide (0<=x) else f y)/\w.grownBy w' (some b0)/\w.drawn<=w'.drawn:=by
 have c0:=hb.eq 0 (.map (some b0)) rfl
 have c1:=hb.lt
 have HM:=Lib.hid hm
 have HX:=Lib.hid hx
 have HN:=Lib.hid hn
 clear hb hm hx hn
 obtain⟨v,hv⟩:∃ v,f x=v:=⟨_,rfl⟩
 have HV:=Lib.hid hv
 obtain⟨u,hu⟩:∃ u,decide (0<=x)=u:=⟨_,rfl⟩
 have HU:=Lib.hid hu
 rw[hv,hu]
 clear hv hu
 go_enter Tryz.func167,Tryz.ntmps167
 go_wp2_with (first
  | (at_lookup;refine q1q5 q1ta rfl _ _ rfl HM.out rfl rfl HX.out ?_;rw[HV.out])
  | (at_mapUpdate;refine q1q6 q1ta rfl _ _ _ rfl HM.out HN.out rfl rfl HX.out rfl ?_;rw[HU.out];intro w1 hm1 hg1 hd1))
 go_ret
 exact⟨by simp,hm1,hg1,hd1⟩
set_option maxRecDepth 10000 in
set_option maxHeartbeats 2000000 in
theorem q1tc (A:Option Addr) (c:Nat) (l:List Int) (w:World) (hs:Sl w 1 A l.length c (vi l)) (hl:l.length<=1000000) (hf:∀ x∈l,wf64 x) :
  Calls Tryz.prog 114 #[.slice A l.length c] w fun e w'=>e=.returned (.bool (q1t7 l))/\∃ x,w'=ext w x:=by
 have hmm:=@run_makeMap Tryz.prog
 have HF:=Lib.hid hf
 clear hf
 have hm0:=Lib.hid (q1q3 Tryz.prog 3 4 w)
 have hn1:Hid (0<maxLen):=Lib.hid (by unfold maxLen;decide)
 have hw1:Hid (wf64 (-1)):=Lib.hid (by unfold wf64;omega)
 obtain⟨v,hv⟩:∃ v,q1t7 l=v:=⟨_,rfl⟩
 rw[hv]
 have HV:=Lib.hid hv
 clear hv
 go_enter Tryz.func114,Tryz.ntmps114
 go_wp2_with (refine q1q7 q1ta rfl _ _ _ rfl hm0.out hn1.out rfl rfl hw1.out rfl ?_;intro w1 hm1 hg1 hd1)
 have hb1:Bel w w1:=((Bel.refl w).alloc _).grown hg1 (fun k hk=>by cases hk;exact Nat.le_refl _) hd1
 have hlt:=hm1.lt
 have hm2:MapB Tryz.prog 3 4 w1 w.heap.size 1 (q1t8 l 0):=hm1.congr (fun x=>by unfold q1t8;simp)
 refine (q1sm A c l w1.heap.size (fun k W=>MapB Tryz.prog 3 4 W w.heap.size (k+1) (q1t8 l k)/\Box W w1.heap.size #[.map (some w.heap.size)]/\Box W (w1.alloc (.cells #[.map (some w.heap.size)] 247)).heap.size #[.func (.func 167) #[] #[.pointer (some ⟨w1.heap.size,0,none⟩)]]/\Bel w W)
  (fun k=>!(decide (0<=l.getD k 0)&&(l.take k).contains (l.getD k 0))) _ hl
  ⟨hm2.bel (by (try simp only[qdi]);repeat (first | exact Bel.refl _ | assumption | refine qdr ?_ _ | refine qds ?_ _ | refine Bel.ext ?_ _ | refine Bel.alloc ?_ _ | refine Bel.drewN ?_ _)),Box.new (W:=w1) (e:=247) (by (try simp only[qdi]);repeat (first | exact Bel.refl _ | assumption | refine qdr ?_ _ | refine qds ?_ _ | refine Bel.ext ?_ _ | refine Bel.alloc ?_ _ | refine Bel.drewN ?_ _)) rfl,Box.new (Bel.refl _) rfl,Bel.trans hb1 (by (try simp only[qdi]);repeat (first | exact Bel.refl _ | assumption | refine qdr ?_ _ | refine qds ?_ _ | refine Bel.ext ?_ _ | refine Bel.alloc ?_ _ | refine Bel.drewN ?_ _))⟩
  (fun k W h=>hs.bel h.2.2.2) (fun k W h=>h.2.2.1) ?_).mono ?_
 ·intro k x W hx ⟨h1,h2,h3,h4⟩
  have hk:=(List.getElem?_eq_some_iff.1 hx).1
  have hxe:l.getD k 0=x:=by rw[List.getD_eq_getElem?_getD,hx];rfl
  refine (q1tb x w.heap.size w1.heap.size (k+1) (q1t8 l k) W h1 h2 (HF.out x (List.mem_of_getElem? hx)) (by unfold maxLen;omega)).mono ?_
  rintro e W2 ⟨rfl,g1,g2,g3⟩
  refine⟨by rw[hxe];rfl,g1.congr (q1t9 hx),h2.grown g2 (by omega),h3.grown g2 (by simp;omega),h4.grown g2 (fun k hk=>by cases hk;exact Nat.le_refl _) g3⟩
 ·rintro e W2 ⟨he,k,h⟩
  obtain rfl:e=.returned (.bool v):=by rw[← HV.out];exact he
  clear he
  go_wp2
  go_ret
  exact⟨rfl,ext_of h.2.2.2⟩
end Go.Proofs.YtfjjdnaggblaaaaGreat
namespace Go.Proofs.YtfjjdnaggblaaaaGreat
open Go Go.Tx Go.Pel Go.Proofs.Tryz
set_option maxRecDepth 100000
set_option maxHeartbeats 0
abbrev q1td:List Pk:=[.row qhx true,.row RLiE false]
abbrev q1te:Type:=qhy×DLiE×Unit
abbrev q1tf:Type:=Bool
def q1tg (r:q1tf):LV×List Ob:=(.bool r,[])
def q1th (F:q1te->Option q1tf):Go.Tx.Spec:=⟨113,q1td,q1tf,F,q1tg⟩
def q1ti (x:q1te):Bool:=decide ((ptsL x.1.1).length<=1000000)&&decide ((idsI x.2.1.1).length<=1000000)&&incB (ptsL x.1.1)
def q1tj (d:Nat) (x:q1te):Option q1tf:=bif q1ti x then some (q1rr (ptsL x.1.1) (idsI x.2.1.1)) else none
theorem q1tk (d:Nat) (x:q1te) (h:q1ti x=true):q1tj d x=some (q1rr (ptsL x.1.1) (idsI x.2.1.1)):=by unfold q1tj;rw[h];rfl
theorem q1tl (d:Nat):COK prog (q1th (q1tj d)):=by
 refine qo6 (qo7 (fn:=f113) (by kernel_rfl) (by kernel_rfl) (by kernel_rfl)) fun x r hx w φ vs hφ hv=>?_
 have hx:q1tj d x=some r:=hx
 unfold q1tj at hx
 obtain⟨hc,rfl⟩:=qpm hx
 have hv:VRs (Emb.fro φ) [.agg [.fz RP x.1.1],.fz RI x.2.1.1] vs:=hv
 obtain⟨v0,vs,rfl,q0,hv⟩:=VRs.uncons hv
 obtain⟨v1,rfl,q1⟩:=vrs1 hv
 obtain⟨A0,c0,rfl,s0,z0⟩:=qph hφ q0
 obtain⟨A1,c1,rfl,s1,z1⟩:=qpg hφ q1
 unfold q1ti at hc
 simp only[Bool.and_eq_true]at hc
 obtain⟨⟨h1,h2⟩,h3⟩:=hc
 replace h1:=of_decide_eq_true h1
 replace h2:=of_decide_eq_true h2
 refine (q1t5 A0 A1 c0 c1 (ptsL x.1.1) (idsI x.2.1.1) w s0 s1 h1 h2 h3).mono ?_
 rintro e w' ⟨rfl,y,rfl⟩
 exact qo4 hφ (.bool _) y
abbrev q1tm:List Pk:=[.row RLiE false]
abbrev q1tn:Type:=DLiE×Unit
abbrev q1to:Type:=Bool
def q1tp (r:q1to):LV×List Ob:=(.bool r,[])
def q1tq (F:q1tn->Option q1to):Go.Tx.Spec:=⟨114,q1tm,q1to,F,q1tp⟩
def q1tr (x:q1tn):Bool:=decide ((idsI x.1.1).length<=1000000)&&qpk (idsI x.1.1)
def q1ts (d:Nat) (x:q1tn):Option q1to:=bif q1tr x then some (q1t7 (idsI x.1.1)) else none
theorem q1tt (d:Nat) (x:q1tn) (h:q1tr x=true):q1ts d x=some (q1t7 (idsI x.1.1)):=by unfold q1ts;rw[h];rfl
theorem q1tu (d:Nat):COK prog (q1tq (q1ts d)):=by
 refine qo6 (qo7 (fn:=f114) (by kernel_rfl) (by kernel_rfl) (by kernel_rfl)) fun x r hx w φ vs hφ hv=>?_
 have hx:q1ts d x=some r:=hx
 unfold q1ts at hx
 obtain⟨hc,rfl⟩:=qpm hx
 have hv:VRs (Emb.fro φ) [.fz RI x.1.1] vs:=hv
 obtain⟨v0,rfl,q0⟩:=vrs1 hv
 obtain⟨A0,c0,rfl,s0,z0⟩:=qpg hφ q0
 unfold q1tr at hc
 simp only[Bool.and_eq_true]at hc
 obtain⟨h1,h2⟩:=hc
 replace h1:=of_decide_eq_true h1
 refine (q1tc A0 c0 (idsI x.1.1) w s0 h1 (qpl h2)).mono ?_
 rintro e w' ⟨rfl,y,rfl⟩
 exact qo4 hφ (.bool _) y
end Go.Proofs.YtfjjdnaggblaaaaGreat
namespace Go.Proofs.YtfjjdnaggblaaaaGreat
open Go Go.Tx Go.Proofs.Tryz
set_option maxRecDepth 100000
set_option maxHeartbeats 0
noncomputable section
abbrev q1tv:Type:=qhy×Dii×Unit
abbrev q1tw:Type:=Int
noncomputable def q1tx (d:Nat):Ent:=⟨tysT,(orc [qv8 (qva d),qsy (qt0 d)]),f112,mkPl [(2,(.box [.val Riii]))] [([0],[2,3]),([1],[3,5]),([2],[3,9]),([4],[4])] [] [],d,112,[.row qhx true,.row Rii true],.undef,[.i .i64]⟩
theorem q1ty (d:Nat):COK prog (q1tx d).s:=Ent.k mixed tys (qeo (ac1 (qvc d) (ac1 (qt2 d) ac0))) ⟨by kernel_rfl,by kernel_rfl,by kernel_rfl⟩
noncomputable def q1tz (d:Nat) (x:q1tv):Option q1tw:=(q1tx d).F x
def q1u0 (d:Nat):q1tv->Option q1tw:=fun ((xAa,_),(xBa,xBb,_),_) =>
 (obnd (qva d ((xAa,()),())) fun r1=>(bif (r1 != 0) then none else (obnd (qt0 d ((xBa,xBb,()),())) fun r2=>some r2)))
theorem q1u1 (d:Nat) (x:q1tv):q1tz d x=q1u0 d x:=by kernel_rfl
abbrev q1u2:Type:=qiy×Di×Unit
abbrev q1u3:Type:=Int
noncomputable def q1u4 (d:Nat):Ent:=⟨tysT,(orc []),f116,mkPl [(2,(.box [.val Ri,.val Ri]))] [([0],[1,2]),([1],[1,2,5]),([2],[1,2,5,12]),([3,4],[4])] [] [],d,116,[.row qix true,.row Ri false],.undef,[.i .i64]⟩
theorem q1u5 (d:Nat):COK prog (q1u4 d).s:=Ent.k mixed tys (qeo ac0) ⟨by kernel_rfl,by kernel_rfl,by kernel_rfl⟩
noncomputable def q1u6 (d:Nat) (x:q1u2):Option q1u3:=(q1u4 d).F x
def q1u7 (d:Nat):q1u2->Option q1u3:=fun ((xAa,xAb,_),(xBa,_),_) =>
 (let e1:=(wi (xBa-(xAb.length:Int)));(bif (decide (e1≥0)) then (obif (inB e1 xAa.length) (some (elt zi xAa e1.toNat).1) none) else (obif (inB xBa xAb.length) (some (elt zi xAb xBa.toNat).1) none)))
theorem q1u8 (d:Nat) (x:q1u2):q1u6 d x=q1u7 d x:=by kernel_rfl
abbrev q1u9:Type:=Diii×Di×Unit
abbrev q1ua:Type:=Int
noncomputable def q1ub (d:Nat):Ent:=⟨tysT,(orc [(q17z d).s]),f210,mkPl [] [([0],[1,2]),([1],[4])] [] [],d,210,[.row Riii true,.row Ri false],.undef,[.i .i64]⟩
theorem q1uc (d:Nat):COK prog (q1ub d).s:=Ent.k mixed tys (qeo (ac1 (q180 d) ac0)) ⟨by kernel_rfl,by kernel_rfl,by kernel_rfl⟩
noncomputable def q1ud (d:Nat) (x:q1u9):Option q1ua:=(q1ub d).F x
def q1ue (d:Nat):q1u9->Option q1ua:=fun ((xAa,_,_,_),(xBa,_),_) =>
 (obnd (q181 d ((xAa,()),(xBa,()),())) fun r1=>some r1)
theorem q1uf (d:Nat) (x:q1u9):q1ud d x=q1ue d x:=by kernel_rfl
abbrev q1ug:Type:=qhy×Di×(Unit)×Unit
abbrev q1uh:Type:=Int×Bool
noncomputable def q1ui (d:Nat):Ent:=⟨tysT,(orc [(q1ub d).s]),f86,mkPl [(0,(.val Riii))] [([0],[0,1,2]),([1],[0,1,2,8]),([2,6,7],[0,1,2,8,9,10]),([3],[0,1,2,8,9,10,17]),([4],[0,1,2,8,9,10,11]),([5],[0,1,2,8,9,10,11,31]),([8],[6,7])] [] [(3,[0,1,2,8,9,10])],d,86,[.row qhx false,.row Ri false,.fn 210 []],(.tup [.undef,.undef]),[.i .i64,.bo]⟩
theorem q1uj (d:Nat):COK prog (q1ui d).s:=Ent.k mixed tys (qeo (ac1 (q1uc d) ac0)) ⟨by kernel_rfl,by kernel_rfl,by kernel_rfl⟩
noncomputable def q1uk (d:Nat) (x:q1ug):Option q1uh:=(q1ui d).F x
abbrev q1ul:Type:=List Diii×Int×Int×Int×Int
def q1um (d:Nat) (self1:q1ul->Option q1uh):q1ul->Option q1uh:=fun (x1a,x1b,x1c,x1d,x1e) =>
 (bif (decide (x1d<x1e)) then (let a3:=(wi (shrI .u64 (IntKind.wrap .u64 (wi (x1d+x1e))) 1));(obif (inB a3 x1a.length) (let e2:=(elt ziii x1a a3.toNat);(obnd (q1ud d ((e2.1,e2.2.1,e2.2.2.1,()),(x1b,()),())) fun r3=>(bif (decide (r3<0)) then (self1 (x1a,x1b,x1c,(wi (a3+1)),x1e)) else (self1 (x1a,x1b,x1c,x1d,a3))))) none)) else (obif (decide (x1d<x1c)) (obif (inB x1d x1a.length) (let e1:=(elt ziii x1a x1d.toNat);(obnd (q1ud d ((e1.1,e1.2.1,e1.2.2.1,()),(x1b,()),())) fun r2=>(some (x1d,(r2==0))))) none) (some (x1d,false))))
def q1un:q1ul->St:=fun (x1a,x1b,x1c,x1d,x1e)=>⟨[(0,.fz Riii x1a),(1,i6 x1b),(2,.fn 210 []),(8,i6 x1c),(9,i6 x1d),(10,i6 x1e)],[]⟩
theorem q1uo (d:Nat) (self1:St->Option q1uh) (x:q1ul):(q1ui d).b 3 [] self1 (q1un x)=q1um d (fun y=>self1 (q1un y)) x:=by kernel_rfl
def q1up (d:Nat) (L1_g:q1ul->Option q1uh):q1ug->Option q1uh:=fun ((xAa,_),(xBa,_),_) =>
 (let a1:=(xAa.length:Int);(L1_g (xAa,xBa,a1,0,a1)))
theorem q1uq (d:Nat) (x:q1ug):q1uk d x=q1up d (iter (q1um d) d) x:=by
 have h:q1uk d x=q1up d (fun y=>iter ((q1ui d).b 3 []) d (q1un y)) x:=by kernel_rfl
 rw[h];congr 1<;>(funext y;first | rfl | exact qfi (q1uo d) d y)
abbrev q1ur:Type:=qhy×Di×Unit
abbrev q1us:Type:=Int×Bool
noncomputable def q1ut (d:Nat):Ent:=⟨tysT,(orc [(q1ui d).s]),f166,mkPl [(2,(.box [.val Riii]))] [([0],[1,2]),([1],[4,5])] [] [],d,166,[.row qhx true,.row Ri false],(.tup [.undef,.undef]),[.i .i64,.bo]⟩
theorem q1uu (d:Nat):COK prog (q1ut d).s:=Ent.k mixed tys (qeo (ac1 (q1uj d) ac0)) ⟨by kernel_rfl,by kernel_rfl,by kernel_rfl⟩
noncomputable def q1uv (d:Nat) (x:q1ur):Option q1us:=(q1ut d).F x
def q1uw (d:Nat):q1ur->Option q1us:=fun ((xAa,_),(xBa,_),_) =>
 (obnd (q1uk d ((xAa,()),(xBa,()),(),())) fun (r1a,r1b)=>some (r1a,r1b))
theorem q1ux (d:Nat) (x:q1ur):q1uv d x=q1uw d x:=by kernel_rfl
abbrev q1uy:Type:=qhy×Dii×Di×Di×Unit
abbrev q1uz:Type:=Int
noncomputable def q1v0 (d:Nat):Ent:=⟨tysT,(orc [quz (qv1 d),(q1ut d).s]),f115,mkPl [(4,(.box [.val Riii]))] [([0],[2,3,4,5]),([1],[2,3,4,5,18]),([2,7,8],[8]),([3],[2,3,4,5,9]),([4],[2,3,4,5,9,11]),([5],[2,3,13]),([6],[2,3,49])] [] [],d,115,[.row qhx true,.row Rii true,.row Ri false,.row Ri false],.undef,[.i .i64]⟩
theorem q1v1 (d:Nat):COK prog (q1v0 d).s:=Ent.k mixed tys (qeo (ac1 (qv3 d) (ac1 (q1uu d) ac0))) ⟨by kernel_rfl,by kernel_rfl,by kernel_rfl⟩
noncomputable def q1v2 (d:Nat) (x:q1uy):Option q1uz:=(q1v0 d).F x
def q1v3 (d:Nat):q1uy->Option q1uz:=fun ((xAa,_),(xBa,xBb,_),(xCa,_),(xDa,_),_) =>
 (bif (decide ((tmin xCa xDa)<0)) then (some (tmax xCa xDa)) else (obnd (q1uv d ((xAa,()),(xCa,()),())) fun (r1a,_)=>(obnd (q1uv d ((xAa,()),(xDa,()),())) fun (r2a,_)=>(obif (inB r1a xAa.length) (let e3:=(elt ziii xAa r1a.toNat);(obif (inB r2a xAa.length) (let e4:=(elt ziii xAa r2a.toNat);(obnd (qv1 d ((e3.1,e3.2.1,e3.2.2.1,()),(e4.1,e4.2.1,e4.2.2.1,()),(xBa,xBb,()),())) fun (r5a,_)=>(bif r5a then some xCa else some xDa))) none)) none))))
theorem q1v4 (d:Nat) (x:q1uy):q1v2 d x=q1v3 d x:=by kernel_rfl
abbrev q1v5:Type:=qhy×Dii×DLiE×Unit
abbrev q1v6:Type:=List Di×List Di×Int
noncomputable def q1v7 (d:Nat):Ent:=⟨tysT,(orc [q11j (q11k d),(q1tx d).s,q1th (q1tj d),q1tq (q1ts d),(q1v0 d).s,(q1u4 d).s]),f50,mkPl [(2,(.val Ri)),(3,(.box [.val Riii])),(6,(.box [.own Ri,.own Ri])),(9,(.box [.own Ri,.own Ri]))] [([0],[2,3,4,6]),([1,4,6,8],[2,3,4,6,8]),([2],[2,3,4,6,8,14]),([3],[2,3,4,6,8,17]),([5],[2,3,4,6,8,26]),([7],[2,3,4,6,8,31]),([9],[2,3,4,6,36]),([11],[3,4,6,9]),([12,14,15],[3,4,6,9,10]),([13],[3,4,6,9,10,51]),([16],[6,7])] [] [(13,[3,4,6,9,10])],d,50,[.row qhx true,.row Rii true,.row RLiE false],(.tup [(.agg [.undef,.undef]),.undef]),[.o Ri,.o Ri,.i .i64]⟩
theorem q1v8 (d:Nat):COK prog (q1v7 d).s:=Ent.k mixed tys (qeo (ac1 (q11l d) (ac1 (q1ty d) (ac1 (q1tl d) (ac1 (q1tu d) (ac1 (q1v1 d) (ac1 (q1u5 d) ac0))))))) ⟨by kernel_rfl,by kernel_rfl,by kernel_rfl⟩
noncomputable def q1v9 (d:Nat) (x:q1v5):Option q1v6:=(q1v7 d).F x
abbrev q1va:Type:=Int×List Diii×Int×Int×List Di×List Di×List Di×List Di
def q1vb (d:Nat) (self1:q1va->Option q1v6):q1va->Option q1v6:=fun (x1a,x1b,x1c,x1d,x1e,x1f,x1g,x1h) =>
 (bif (decide (x1a≥0)) then (obnd (q1u6 d ((x1g,x1h,()),((wi ((wi (2*x1a))+1)),()),())) fun r7=>(obnd (q1u6 d ((x1g,x1h,()),((wi ((wi (2*x1a))+2)),()),())) fun r10=>(obnd (q1v2 d ((x1b,()),(x1c,x1d,()),(r7,()),(r10,()),())) fun r11=>(obif (inB x1a x1h.length) (self1 ((wi (x1a-1)),x1b,x1c,x1d,x1e,x1f,x1g,(List.set x1h x1a.toNat (r11,())))) none)))) else some (x1g,x1h,0))
def q1vc:q1va->St:=fun (x1a,x1b,x1c,x1d,x1e,x1f,x1g,x1h)=>⟨[(3,.ptr 0 0),(4,.ptr 1 0),(6,.ptr 2 0),(9,.ptr 5 0),(10,i6 x1a)],[.cells [.fz Riii x1b],.cells [i6 x1c,i6 x1d],.cells [.rs 3,.rs 4],.rows Ri x1e,.rows Ri x1f,.cells [.rs 6,.rs 7],.rows Ri x1g,.rows Ri x1h]⟩
def q1vd (d:Nat) (L1_g:q1va->Option q1v6):(List Di×Int×List Diii×Int×Int×List Di×List Di)->Option q1v6:=fun (ya,yb,yc,yd,ye,yf,yg) =>
 (bif (yb != 0) then none else (obnd (q11k d ((ya,()),())) fun r2=>(let e3:=(wi ((ya.length:Int)-1));(obif (mkB e3 e3) (let a5:=(List.replicate e3.toNat zi);(L1_g ((wi ((a5.length:Int)-1)),yc,yd,ye,yf,yg,r2,a5))) none))))
def q1ve (d:Nat) (L1_g:q1va->Option q1v6):(List Di×Int×Bool×List Diii×Int×Int×List Di×List Di)->Option q1v6:=fun (ya,yb,yc,yd,ye,yf,yg,yh) =>
 (bif yc then (q1vd d L1_g (ya,2,yd,ye,yf,yg,yh)) else (obnd (q1tj d ((yd,()),(ya,()),())) fun r2=>(bif (!r2) then (q1vd d L1_g (ya,6,yd,ye,yf,yg,yh)) else (obnd (q1ts d ((ya,()),())) fun r3=>(bif (!r3) then (q1vd d L1_g (ya,14,yd,ye,yf,yg,yh)) else (q1vd d L1_g (ya,yb,yd,ye,yf,yg,yh)))))))
theorem q1vf (d:Nat) (self1:St->Option q1v6) (x:q1va):(q1v7 d).b 13 [] self1 (q1vc x)=q1vb d (fun y=>self1 (q1vc y)) x:=by kernel_rfl
def q1vg (d:Nat) (L1_g:q1va->Option q1v6):q1v5->Option q1v6:=fun ((xAa,_),(xBa,xBb,_),(xCa,_),_) =>
 (let a1:=([]:List Di);(let a2:=([]:List Di);(obnd (q1tz d ((xAa,()),(xBa,xBb,()),())) fun r1=>(bif (r1 != 0) then (q1vd d L1_g (xCa,r1,xAa,xBa,xBb,a1,a2)) else (obif (decide ((xCa.length:Int)<1)) (q1ve d L1_g (xCa,r1,true,xAa,xBa,xBb,a1,a2)) (q1ve d L1_g (xCa,r1,(decide ((xCa.length:Int)>64)),xAa,xBa,xBb,a1,a2)))))))
theorem q1vh (d:Nat) (x:q1v5):q1v9 d x=q1vg d (iter (q1vb d) d) x:=by
 have h:q1v9 d x=q1vg d (fun y=>iter ((q1v7 d).b 13 []) d (q1vc y)) x:=by kernel_rfl
 rw[h];congr 1<;>(funext y;first | rfl | exact qfi (q1vf d) d y)
abbrev q1vi:Type:=Di×Unit
abbrev q1vj:Type:=Bool
noncomputable def q1vk (d:Nat):Ent:=⟨tysT,(orc []),f168,mkPl [] [([0],[0]),([1],[2])] [] [],d,168,[.row Ri false],.undef,[.bo]⟩
theorem q1vl (d:Nat):COK prog (q1vk d).s:=Ent.k mixed tys (qeo ac0) ⟨by kernel_rfl,by kernel_rfl,by kernel_rfl⟩
noncomputable def q1vm (d:Nat) (x:q1vi):Option q1vj:=(q1vk d).F x
def q1vn (d:Nat):q1vi->Option q1vj:=fun ((xAa,_),_) =>
 (obif (decide (xAa≥(-1:Int))) (some (decide (xAa<=65535))) (some false))
theorem q1vo (d:Nat) (x:q1vi):q1vm d x=q1vn d x:=by kernel_rfl
abbrev q1vp:Type:=Int
abbrev q1vq:Type:=Bool
noncomputable def q1vr (d:Nat):GEnt:=⟨tysT,(orc [(q1vk d).s]),f209,mkPl [] [([0],[0,1]),([1],[1,3])] [] [],d,209,[1],1,(.tup [.tup [.undef,.ptr 0 0],.tup [.agg [.fn 168 []]]]),[.i .i64],(.tup [.undef,.tup [.agg [.fn 168 []]]]),[.bo]⟩
theorem q1vs (d:Nat):COKG prog (q1vr d).s:=GEnt.k mixed tys (qeo (ac1 (q1vl d) ac0)) ⟨by kernel_rfl,by kernel_rfl,by kernel_rfl⟩ (by kernel_rfl) fun r=>⟨by kernel_rfl,by kernel_rfl⟩
noncomputable def q1vt (d:Nat) (x:q1vp):Option q1vq:=(q1vr d).F x
def q1vu (d:Nat):q1vp->Option q1vq:=fun x =>
 (obif (true&&true) (obnd (q1vm d ((x,()),())) fun r1=>(some (!r1))) none)
theorem q1vv (d:Nat) (x:q1vp):q1vt d x=q1vu d x:=by kernel_rfl
abbrev q1vw:Type:=List Di
abbrev q1vx:Type:=Int
noncomputable def q1vy (d:Nat):GEnt:=⟨tysT,(orcG (q1vr d).s (orc [])),f207,mkPl [(0,(.val Ri))] [([0],[0,1]),([1,6],[0,1,7,8]),([2],[0,1,7,8,9]),([3],[0,1,5,7,8]),([4],[0,1,5,7,8,16]),([5,7],[1,4])] [] [(2,[0,1,7,8])],d,207,[1],1,(.tup [.tup [.undef,.fn 209 [.ptr 0 0]],.tup [.agg [.fn 168 []]]]),[.z Ri],(.tup [.undef,.tup [.agg [.fn 168 []]]]),[.i .i64]⟩
theorem q1vz (d:Nat):COKG prog (q1vy d).s:=GEnt.k mixed tys (qh2 (q1vs d) (qeo ac0)) ⟨by kernel_rfl,by kernel_rfl,by kernel_rfl⟩ (by kernel_rfl) fun r=>⟨by kernel_rfl,by kernel_rfl⟩
noncomputable def q1w0 (d:Nat) (x:q1vw):Option q1vx:=(q1vy d).F x
abbrev q1w1:Type:=List Di×Int×Int
def q1w2 (d:Nat) (self1:q1w1->Option q1vx):q1w1->Option q1vx:=fun (x1a,x1b,x1c) =>
 (bif (decide (x1c<x1b)) then (obif (inB x1c x1a.length) (obnd (q1vt d (elt zi x1a x1c.toNat).1) fun r2=>(bif r2 then some x1c else (self1 (x1a,x1b,(wi (x1c+1)))))) none) else some (-1:Int))
def q1w3:q1w1->St:=fun (x1a,x1b,x1c)=>⟨[(0,.fz Ri x1a),(1,.fn 209 [.ptr 0 0]),(7,i6 x1b),(8,i6 x1c)],[.cells [.fn 168 []]]⟩
theorem q1w4 (d:Nat) (xx:q1vw) (self1:St->Option q1vx) (x:q1w1):(q1vy d).b xx 2 [] self1 (q1w3 x)=q1w2 d (fun y=>self1 (q1w3 y)) x:=by kernel_rfl
def q1w5 (d:Nat) (L1_g:q1w1->Option q1vx):q1vw->Option q1vx:=fun x =>
 (obif (true&&true) (L1_g (x,(x.length:Int),0)) none)
theorem q1w6 (d:Nat) (x:q1vw):q1w0 d x=q1w5 d (iter (q1w2 d) d) x:=by
 have h:q1w0 d x=q1w5 d (fun y=>iter ((q1vy d).b x 2 []) d (q1w3 y)) x:=by kernel_rfl
 rw[h];congr 1<;>(funext y;first | rfl | exact qfi (q1w4 d x) d y)
abbrev q1w7:Type:=List Di
abbrev q1w8:Type:=Bool
noncomputable def q1w9 (d:Nat):GEnt:=⟨tysT,(orcG (q1vy d).s (orc [])),f161,mkPl [(0,(.val Ri))] [([0],[0,1]),([1],[1,4])] [] [],d,161,[1],1,(.tup [.tup [.undef,.fn 209 [.ptr 0 0]],.tup [.agg [.fn 168 []]]]),[.z Ri],(.tup [.undef,.tup [.agg [.fn 168 []]]]),[.bo]⟩
theorem q1wa (d:Nat):COKG prog (q1w9 d).s:=GEnt.k mixed tys (qh2 (q1vz d) (qeo ac0)) ⟨by kernel_rfl,by kernel_rfl,by kernel_rfl⟩ (by kernel_rfl) fun r=>⟨by kernel_rfl,by kernel_rfl⟩
noncomputable def q1wb (d:Nat) (x:q1w7):Option q1w8:=(q1w9 d).F x
def q1wc (d:Nat):q1w7->Option q1w8:=fun x =>
 (obif (true&&true) (obnd (q1w0 d x) fun r1=>(some (decide (r1≥0)))) none)
theorem q1wd (d:Nat) (x:q1w7):q1wb d x=q1wc d x:=by kernel_rfl
abbrev q1we:Type:=DLiE×(Unit)×Unit
abbrev q1wf:Type:=Bool
noncomputable def q1wg (d:Nat):Ent:=⟨tysT,(orcG (q1w9 d).s (orc [])),f164,mkPl [(0,(.val Ri))] [([0],[0,3]),([1],[4])] [] [],d,164,[.row RLiE false,.fn 168 []],.undef,[.bo]⟩
theorem q1wh (d:Nat):COK prog (q1wg d).s:=Ent.k mixed tys (qh2 (q1wa d) (qeo ac0)) ⟨by kernel_rfl,by kernel_rfl,by kernel_rfl⟩
noncomputable def q1wi (d:Nat) (x:q1we):Option q1wf:=(q1wg d).F x
def q1wj (d:Nat):q1we->Option q1wf:=fun ((xAa,_),_) =>
 (obnd (q1wb d xAa) fun r1=>(some (!r1)))
theorem q1wk (d:Nat) (x:q1we):q1wi d x=q1wj d x:=by kernel_rfl
abbrev q1wl:Type:=qiy×Unit
abbrev q1wm:Type:=Int
noncomputable def q1wn (d:Nat):Ent:=⟨tysT,(orc [q1tq (q1ts d),(q1u4 d).s,(q1wg d).s]),f117,mkPl [(1,(.box [.val Ri,.val Ri])),(36,(.val Ri))] [([0],[1]),([1],[1,3]),([2],[1,30]),([4],[1,34]),([6,12],[1,36,37,38]),([7],[1,36,37,38,39]),([8],[1,4,5,36,37,38]),([9],[1,5,6,7,36,37,38]),([10],[1,36,37,38,70]),([13],[2])] [] [(7,[1,36,37,38])],d,117,[.row qix true],.undef,[.i .i64]⟩
theorem q1wo (d:Nat):COK prog (q1wn d).s:=Ent.k mixed tys (qeo (ac1 (q1tu d) (ac1 (q1u5 d) (ac1 (q1wh d) ac0)))) ⟨by kernel_rfl,by kernel_rfl,by kernel_rfl⟩
noncomputable def q1wp (d:Nat) (x:q1wl):Option q1wm:=(q1wn d).F x
abbrev q1wq:Type:=List Di×Int×Int×List Di×List Di
def q1wr (d:Nat) (self1:q1wq->Option q1wm):(List Di×Int×Int×Bool×List Di×List Di)->Option q1wm:=fun (ya,yb,yc,yd,ye,yf) =>
 (bif yd then none else (self1 (ya,yb,(wi (yc+1)),ye,yf)))
def q1ws (d:Nat) (self1:q1wq->Option q1wm):q1wq->Option q1wm:=fun (x1a,x1b,x1c,x1d,x1e) =>
 (bif (decide (x1c<x1b)) then (obif (inB x1c x1a.length) (let e2:=(elt zi x1a x1c.toNat);(obnd (q1u6 d ((x1d,x1e,()),((wi ((wi (2*x1c))+1)),()),())) fun r5=>(obnd (q1u6 d ((x1d,x1e,()),((wi ((wi (2*x1c))+2)),()),())) fun r8=>(obif (e2.1 != r5) (obif (e2.1 != r8) (q1wr d self1 (x1a,x1b,x1c,true,x1d,x1e)) (obif (decide (e2.1<0)) (q1wr d self1 (x1a,x1b,x1c,(decide ((tmax r5 r8)≥0)),x1d,x1e)) (q1wr d self1 (x1a,x1b,x1c,false,x1d,x1e)))) (obif (decide (e2.1<0)) (q1wr d self1 (x1a,x1b,x1c,(decide ((tmax r5 r8)≥0)),x1d,x1e)) (q1wr d self1 (x1a,x1b,x1c,false,x1d,x1e))))))) none) else some 0)
def q1wt:q1wq->St:=fun (x1a,x1b,x1c,x1d,x1e)=>⟨[(1,.ptr 0 0),(36,.fz Ri x1a),(37,i6 x1b),(38,i6 x1c)],[.cells [.fz Ri x1d,.fz Ri x1e]]⟩
def q1wu (d:Nat) (L1_g:q1wq->Option q1wm):(Bool×List Di×List Di)->Option q1wm:=fun (ya,yb,yc) =>
 (bif ya then none else (obnd (q1wi d ((yb,()),(),())) fun r1=>(bif (!r1) then none else (L1_g (yc,(yc.length:Int),0,yb,yc)))))
theorem q1wv (d:Nat) (self1:St->Option q1wm) (x:q1wq):(q1wn d).b 7 [] self1 (q1wt x)=q1ws d (fun y=>self1 (q1wt y)) x:=by kernel_rfl
def q1ww (d:Nat) (L1_g:q1wq->Option q1wm):q1wl->Option q1wm:=fun ((xAa,xAb,_),_) =>
 (let a1:=(xAa.length:Int);(obif (decide (a1<1)) (q1wu d L1_g (true,xAa,xAb)) (obif (decide (a1>64)) (q1wu d L1_g (true,xAa,xAb)) (obif ((xAb.length:Int) != (wi (a1-1))) (q1wu d L1_g (true,xAa,xAb)) (obnd (q1ts d ((xAa,()),())) fun r2=>(q1wu d L1_g ((!r2),xAa,xAb)))))))
theorem q1wx (d:Nat) (x:q1wl):q1wp d x=q1ww d (iter (q1ws d) d) x:=by
 have h:q1wp d x=q1ww d (fun y=>iter ((q1wn d).b 7 []) d (q1wt y)) x:=by kernel_rfl
 rw[h];congr 1<;>(funext y;first | rfl | exact qfi (q1wv d) d y)
abbrev q1wy:Type:=qiy×Unit
abbrev q1wz:Type:=Int×Int
noncomputable def q1x0 (d:Nat):Ent:=⟨tysT,(orc [(q1u4 d).s,(q1wn d).s]),f51,mkPl [(1,(.box [.val Ri,.val Ri]))] [([0],[1]),([1],[1,4]),([2],[1,9]),([4],[5]),([5],[5,14]),([6],[2,3])] [] [],d,51,[.row qix true],(.tup [.undef,.undef]),[.i .i64,.i .i64]⟩
theorem q1x1 (d:Nat):COK prog (q1x0 d).s:=Ent.k mixed tys (qeo (ac1 (q1u5 d) (ac1 (q1wo d) ac0))) ⟨by kernel_rfl,by kernel_rfl,by kernel_rfl⟩
noncomputable def q1x2 (d:Nat) (x:q1wy):Option q1wz:=(q1x0 d).F x
def q1x3 (d:Nat):q1wy->Option q1wz:=fun ((xAa,xAb,_),_) =>
 (obnd (q1wp d ((xAa,xAb,()),())) fun r1=>(bif (r1 != 0) then none else (obnd (q1u6 d ((xAa,xAb,()),(0,()),())) fun r2=>(bif (decide (r2≥0)) then some (r2,0) else none))))
theorem q1x4 (d:Nat) (x:q1wy):q1x2 d x=q1x3 d x:=by kernel_rfl
abbrev q1x5:Type:=DLiE×Unit
abbrev q1x6:Type:=Bool
noncomputable def q1x7 (d:Nat):Ent:=⟨tysT,(orc []),f119,mkPl [(0,(.val Ri))] [([0],[0]),([1,3],[0,3]),([2],[0,3,8]),([4,6],[0,3,4]),([5],[0,3,4,13]),([7],[0,3,4,31]),([8,9],[2])] [] [(5,[0,3,4]),(2,[0,3])],d,119,[.row RLiE false],.undef,[.bo]⟩
theorem q1x8 (d:Nat):COK prog (q1x7 d).s:=Ent.k mixed tys (qeo ac0) ⟨by kernel_rfl,by kernel_rfl,by kernel_rfl⟩
noncomputable def q1x9 (d:Nat) (x:q1x5):Option q1x6:=(q1x7 d).F x
abbrev q1xa:Type:=List Di×Int×Int
abbrev q1xb:Type:=List Di×Int
def q1xc (d:Nat) (self2:q1xa->Option q1x6):(List Di×Int×Int×Bool)->Option q1x6:=fun (ya,yb,yc,yd) =>
 (bif yd then some true else (self2 (ya,yb,(wi (yc+1)))))
def q1xd (d:Nat) (self1:q1xb->Option q1x6) (self2:q1xa->Option q1x6):q1xa->Option q1x6:=fun (x2a,x2b,x2c) =>
 (bif (decide (x2c<x2b)) then (obif (inB x2b x2a.length) (obif (decide ((elt zi x2a x2b.toNat).1≥0)) (obif (inB x2c x2a.length) (obif (inB x2b x2a.length) (q1xc d self2 (x2a,x2b,x2c,((elt zi x2a x2c.toNat).1==(elt zi x2a x2b.toNat).1))) none) none) (q1xc d self2 (x2a,x2b,x2c,false))) none) else (self1 (x2a,(wi (x2b+1)))))
def q1xe:q1xa->St:=fun (x2a,x2b,x2c)=>⟨[(0,.fz Ri x2a),(3,i6 x2b),(4,i6 x2c)],[]⟩
def q1xf (d:Nat) (L2_g:q1xa->Option q1x6) (self1:q1xb->Option q1x6):q1xb->Option q1x6:=fun (x1a,x1b) =>
 (bif (decide (x1b<(x1a.length:Int))) then (L2_g (x1a,x1b,0)) else some false)
def q1xg:q1xb->St:=fun (x1a,x1b)=>⟨[(0,.fz Ri x1a),(3,i6 x1b)],[]⟩
theorem q1xh (d:Nat) (self1:St->Option q1x6) (self2:St->Option q1x6) (x:q1xa):(q1x7 d).b 5 [self1] self2 (q1xe x)=q1xd d (fun y=>self1 (q1xg y)) (fun y=>self2 (q1xe y)) x:=by kernel_rfl
def q1xi (d:Nat) (self1:q1xb->Option q1x6) (x:q1xb):Option q1x6:=q1xf d (iter (q1xd d self1) d) self1 x
theorem q1xj (d:Nat) (self1:St->Option q1x6) (x:q1xb):(q1x7 d).b 2 [] self1 (q1xg x)=q1xi d (fun y=>self1 (q1xg y)) x:=by
 have h:(q1x7 d).b 2 [] self1 (q1xg x)=q1xf d (fun y=>iter ((q1x7 d).b 5 [self1]) d (q1xe y)) (fun y=>self1 (q1xg y)) x:=by kernel_rfl
 rw[h];unfold q1xi;congr 1<;>(funext y;first | rfl | exact qfi (q1xh d self1) d y)
def q1xk (d:Nat) (L1_g:q1xb->Option q1x6):q1x5->Option q1x6:=fun ((xAa,_),_) =>
 (L1_g (xAa,0))
theorem q1xl (d:Nat) (x:q1x5):q1x9 d x=q1xk d (iter (q1xi d) d) x:=by
 have h:q1x9 d x=q1xk d (fun y=>iter ((q1x7 d).b 2 []) d (q1xg y)) x:=by kernel_rfl
 rw[h];congr 1<;>(funext y;first | rfl | exact qfi (q1xj d) d y)
abbrev q1xm:Type:=qiy×Di×Unit
abbrev q1xn:Type:=Int
noncomputable def q1xo (d:Nat):Ent:=⟨tysT,(orc []),f120,mkPl [(2,(.box [.val Ri,.val Ri]))] [([0],[1,2]),([1],[1,2,9]),([2,3],[4])] [] [],d,120,[.row qix true,.row Ri false],.undef,[.i .i64]⟩
theorem q1xp (d:Nat):COK prog (q1xo d).s:=Ent.k mixed tys (qeo ac0) ⟨by kernel_rfl,by kernel_rfl,by kernel_rfl⟩
noncomputable def q1xq (d:Nat) (x:q1xm):Option q1xn:=(q1xo d).F x
def q1xr (d:Nat):q1xm->Option q1xn:=fun ((xAa,xAb,_),(xBa,_),_) =>
 (bif (decide (xBa<(xAb.length:Int))) then (obif (inB xBa xAb.length) (some (elt zi xAb xBa.toNat).1) none) else (let e1:=(wi (xBa-(xAb.length:Int)));(obif (inB e1 xAa.length) (some (elt zi xAa e1.toNat).1) none)))
theorem q1xs (d:Nat) (x:q1xm):q1xq d x=q1xr d x:=by kernel_rfl
abbrev q1xt:Type:=qiy×Unit
abbrev q1xu:Type:=Int
noncomputable def q1xv (d:Nat):Ent:=⟨tysT,(orc [(q1x7 d).s,(q1xo d).s]),f53,mkPl [(1,(.box [.val Ri,.val Ri]))] [([0],[1]),([1],[1,3]),([2],[1,3,29]),([4,6],[1,3,4]),([5],[1,3,4,32]),([7],[1,3,4,48]),([9,11],[1,5]),([10],[1,5,53]),([12],[1,5,6,7]),([13],[1,5,97]),([15],[2])] [] [(10,[1,5]),(5,[1,3,4])],d,53,[.row qix true],.undef,[.i .i64]⟩
theorem q1xw (d:Nat):COK prog (q1xv d).s:=Ent.k mixed tys (qeo (ac1 (q1x8 d) (ac1 (q1xp d) ac0))) ⟨by kernel_rfl,by kernel_rfl,by kernel_rfl⟩
noncomputable def q1xx (d:Nat) (x:q1xt):Option q1xu:=(q1xv d).F x
abbrev q1xy:Type:=Int×List Di×List Di
abbrev q1xz:Type:=Int×Int×List Di×List Di
def q1y0 (d:Nat) (self1:q1xz->Option q1xu):(Int×Int×Bool×List Di×List Di)->Option q1xu:=fun (ya,yb,yc,yd,ye) =>
 (bif yc then none else (self1 (ya,(wi (yb+1)),yd,ye)))
def q1y1 (d:Nat) (self2:q1xy->Option q1xu):(Int×Bool×List Di×List Di)->Option q1xu:=fun (ya,yb,yc,yd) =>
 (bif yb then none else (self2 ((wi (ya+1)),yc,yd)))
def q1y2 (d:Nat) (self2:q1xy->Option q1xu):q1xy->Option q1xu:=fun (x2a,x2b,x2c) =>
 (bif (decide (x2a<(x2c.length:Int))) then (obnd (q1xq d ((x2b,x2c,()),((wi ((wi (2*x2a))+1)),()),())) fun r3=>(obnd (q1xq d ((x2b,x2c,()),((wi ((wi (2*x2a))+2)),()),())) fun r6=>(obif (inB x2a x2c.length) (obif ((elt zi x2c x2a.toNat).1 != r3) (obif (inB x2a x2c.length) (obif ((elt zi x2c x2a.toNat).1 != r6) (q1y1 d self2 (x2a,true,x2b,x2c)) (obif (inB x2a x2c.length) (obif ((elt zi x2c x2a.toNat).1==(-1:Int)) (obif (r3 != (-1:Int)) (q1y1 d self2 (x2a,true,x2b,x2c)) (q1y1 d self2 (x2a,(r6 != (-1:Int)),x2b,x2c))) (q1y1 d self2 (x2a,false,x2b,x2c))) none)) none) (obif (inB x2a x2c.length) (obif ((elt zi x2c x2a.toNat).1==(-1:Int)) (obif (r3 != (-1:Int)) (q1y1 d self2 (x2a,true,x2b,x2c)) (q1y1 d self2 (x2a,(r6 != (-1:Int)),x2b,x2c))) (q1y1 d self2 (x2a,false,x2b,x2c))) none)) none))) else some 0)
def q1y3:q1xy->St:=fun (x2a,x2b,x2c)=>⟨[(1,.ptr 0 0),(5,i6 x2a)],[.cells [.fz Ri x2b,.fz Ri x2c]]⟩
def q1y4 (d:Nat) (L2_g:q1xy->Option q1xu) (self1:q1xz->Option q1xu):q1xz->Option q1xu:=fun (x1a,x1b,x1c,x1d) =>
 (bif (decide (x1b<x1a)) then (obif (inB x1b x1c.length) (obif (decide ((elt zi x1c x1b.toNat).1<(-1:Int))) (q1y0 d self1 (x1a,x1b,true,x1c,x1d)) (obif (inB x1b x1c.length) (q1y0 d self1 (x1a,x1b,(decide ((elt zi x1c x1b.toNat).1>65535)),x1c,x1d)) none)) none) else (L2_g (0,x1c,x1d)))
def q1y5:q1xz->St:=fun (x1a,x1b,x1c,x1d)=>⟨[(1,.ptr 0 0),(3,i6 x1a),(4,i6 x1b)],[.cells [.fz Ri x1c,.fz Ri x1d]]⟩
theorem q1y6 (d:Nat) (self1:St->Option q1xu) (self2:St->Option q1xu) (x:q1xy):(q1xv d).b 10 [self1] self2 (q1y3 x)=q1y2 d (fun y=>self2 (q1y3 y)) x:=by kernel_rfl
def q1y7 (d:Nat) (self1:q1xz->Option q1xu) (x:q1xz):Option q1xu:=q1y4 d (iter (q1y2 d) d) self1 x
theorem q1y8 (d:Nat) (self1:St->Option q1xu) (x:q1xz):(q1xv d).b 5 [] self1 (q1y5 x)=q1y7 d (fun y=>self1 (q1y5 y)) x:=by
 have h:(q1xv d).b 5 [] self1 (q1y5 x)=q1y4 d (fun y=>iter ((q1xv d).b 10 [self1]) d (q1y3 y)) (fun y=>self1 (q1y5 y)) x:=by kernel_rfl
 rw[h];unfold q1y7;congr 1<;>(funext y;first | rfl | exact qfi (q1y6 d self1) d y)
def q1y9 (d:Nat) (L1_g:q1xz->Option q1xu):q1xt->Option q1xu:=fun ((xAa,xAb,_),_) =>
 (let a1:=(xAa.length:Int);(obif (decide (a1<1)) (none) (obif (decide (a1>64)) (none) (obif ((xAb.length:Int) != (wi (a1-1))) (none) (obnd (q1x9 d ((xAa,()),())) fun r2=>(bif r2 then none else (L1_g (a1,0,xAa,xAb))))))))
theorem q1ya (d:Nat) (x:q1xt):q1xx d x=q1y9 d (iter (q1y7 d) d) x:=by
 have h:q1xx d x=q1y9 d (fun y=>iter ((q1xv d).b 5 []) d (q1y5 y)) x:=by kernel_rfl
 rw[h];congr 1<;>(funext y;first | rfl | exact qfi (q1y8 d) d y)
end
end Go.Proofs.YtfjjdnaggblaaaaGreat
namespace Go
open RowKit
section
variable {F:Fence} {n:Nat} {P:Program}
theorem q1ye {f:Nat} {args:Array Value} {w:World} {R:Ending->World->Prop} (l:Nat) (h:CallsIn F n P f args w R):CallsIn (F.inRound l) n P f args w R:=h
end
end Go
namespace Go
namespace RegC
section
variable {P:Program} {ops:Array Oper} {md:Region.Mode} {Q:Exit->Act->World->Prop} {l n:Nat}
def q1yi (ops:Array Oper):Bool:=ops.all fun o=>match o.op with | .defer _=>false | _=>true
theorem q1yj {i:Nat} {o:Oper} (h:q1yi ops=true) (ho:ops[i]?=some o):∀ c,o.op ≠ .defer c:=by
 intro c hc
 unfold q1yi at h
 have hi:=(Array.getElem?_eq_some_iff.1 ho)
 obtain⟨hi,he⟩:=hi
 have:=Array.all_eq_true.1 h i hi
 rw[he,hc]at this
 cases this
theorem q1yk {o:Oper} {a:Act} {w:World} {K:Act->World->Prop} (hd:∀ c,o.op ≠ .defer c) (h:Oper.wp P o a w K Q):Oper.wpIn (Fence.wide.inRound l) n P o a w K Q:=by
 refine⟨fun _ _=>trivial,?_⟩
 rw[Oper.semAt_plain (Fence.wide.inRound l) _ _ hd]
 unfold Oper.wp at h
 cases hr:(execOp a.eval o).run P w with
 | ok x w' =>
  rw[hr]at h
  cases x with
  | value v=>exact h
  | skip=>exact h
  | defer d=>exact h
  | enter f args=>exact⟨fun hh=>by simp[Fence.wide]at hh,q1ye l (callsIn_wide.2 h)⟩
  | row row args=>exact⟨fun hh=>by simp[Fence.wide]at hh,fun c cs _=>by obtain⟨v,w',r,s⟩:=h c cs;exact⟨v,w',r,stepsIn_wide.2 s⟩⟩
  | _=>exact h.elim
 | halt x w' =>
  rw[hr]at h
  cases x<;>exact h
theorem q1yl (hnd:q1yi ops=true) (hL:¬ LetsOut Q) {i:Nat} {K K':Act->World->Prop} {a:Act} {w:World} (hK:∀ a w,K a w->K' a w) (h:wpOp P ops Q i K a w):wpOpIn (Fence.wide.inRound l) n P ops Q i K' a w:=by
 unfold wpOp at h
 unfold wpOpIn
 cases ho:ops[i]? with
 | none=>rw[ho]at h;exact hK _ _ h
 | some o =>
  rw[ho]at h
  simp only at h ⊢
  split
  ·rename_i hw
   rw[if_pos hw]at h
   rcases h with h | h
   ·exact Oper.wpIn_mono hK (q1yk (q1yj hnd ho) h)
   ·exact absurd h.2 hL
  ·rename_i hw
   rw[if_neg hw]at h
   exact⟨fun _ _=>trivial,hK _ _ h⟩
theorem q1ym (hnd:q1yi ops=true) (hL:¬ LetsOut Q):∀ (fuel:Nat) (li:Array Bool) (a:Act) (w:World),wpAny P md ops Q fuel li a w->wpAnyIn (Fence.wide.inRound l) n P md ops Q fuel li a w:=by
 intro fuel
 induction fuel with
 | zero=>exact fun _ _ _ h=>h
 | succ fuel ih=>exact fun li a w h=>⟨h.1,fun i hi=>q1yl hnd hL (fun a w=>ih _ a w) (h.2 i hi)⟩
end
section
variable {P:Program} {C:World->Prop} {l n:Nat}
end
end RegC
end Go
namespace Go.Tx
open Go Go.RegC
section
variable {P:Program} {V:Nat->Value->Prop} {Q:Exit->Act->World->Prop} {ops:Array Oper}
theorem q1yo {l n:Nat} (hL:¬ LetsOut Q):∀ (L:List Oper),(∀ o∈L,∀ c,o.op ≠ .defer c)->∀ (a:Act) (w:World),wpList P ops Q L a w->wpListIn (Fence.wide.inRound l) n P ops Q L a w
 | [],_,a,w,h=>h
 | o::L, hd, a, w, h => by
  have ih:=q1yo (l:=l) (n:=n) hL L fun o ho=>hd o (List.mem_cons_of_mem _ ho)
  change (if Region.wanted o (yielded ops a.tmps) then _ else _)
  change (if Region.wanted o (yielded ops a.tmps) then _ else _) at h
  split
  ·rename_i hw
   rw[if_pos hw]at h
   rcases h with h | h
   ·exact Oper.wpIn_mono (fun a w=>ih a w) (q1yk (hd o (List.mem_cons_self ..)) h)
   ·exact absurd h.2 hL
  ·rename_i hw
   rw[if_neg hw]at h
   exact⟨fun _ _=>trivial,ih _ _ h⟩
theorem q1yp {l n id:Nat} {draw:Bool} {a:Act} {w:World} (hm:P.follows .mixedOrders=true) (hL:¬ LetsOut Q) (hnd:q1yi ops=true) (h:RW P ops draw Q a w):(Code.region id ops draw).wpIn (Fence.wide.inRound l) n P Q a w:=by
 cases draw with
 | true=>exact wpIn_region_any hm (q1ym hnd hL _ _ _ _ h)
 | false =>
  refine wpIn_region_list (q1yo hL _ (fun o ho=>?_) _ _ h)
  obtain⟨i,hi⟩:=List.getElem?_of_mem ho
  exact q1yj hnd (i:=i) (o:=o) (by rw[← hi,Array.getElem?_toList])
end
section
variable {P:Program} {T:Tys} {C:Orc} {N l:Nat} {V:Nat->Value->Prop} {w0:World} {φ0:Fz0} {Q:Exit->Act->World->Prop}
def RunI (l:Nat) (P:Program) (V:Nat->Value->Prop) (w0:World) (φ0:Fz0) (N:Nat) (c:Code) (s:St) (Q:Exit->Act->World->Prop):Prop:=∀ a w,SS w0 φ0 N s a w->KT V a->c.wpIn (Fence.wide.inRound l) 0 P Q a w
def CnI (V:Nat->Value->Prop) (w0:World) (φ0:Fz0) (N:Nat) (s:St) (Q:Exit->Act->World->Prop) (e:Exit):Prop:=∀ a w,SS w0 φ0 N s a w->KT V a->Q e a w
theorem q1yq {c:Code} {s:St} (h:RunI l P V w0 φ0 N c s Q):CnI V w0 φ0 N s (Exit.then (c.wpIn (Fence.wide.inRound l) 0 P Q) Q) .normal:=h
theorem q1yr {s:St} {i:Nat} (h:CnI V w0 φ0 N s Q .normal):CnI V w0 φ0 N s (Exit.inBlock i Q) .normal:=h
theorem q1yx {s:St} (h:CnI V w0 φ0 N s Q .normal):RunI l P V w0 φ0 N .skip s Q:=fun a w hs hv=>wpIn_skip (h a w hs hv)
theorem q1z0 {x y:Code} {s:St} (h:RunI l P V w0 φ0 N x s (Exit.then (y.wpIn (Fence.wide.inRound l) 0 P Q) Q)):RunI l P V w0 φ0 N (.seq x y) s Q:=fun a w hs hv=>wpIn_seq (h a w hs hv)
theorem q1z1 {c:Code} {s:St} {i:Nat} (h:RunI l P V w0 φ0 N c s (Exit.inBlock i Q)):RunI l P V w0 φ0 N (.block i c) s Q:=fun a w hs hv=>wpIn_block (h a w hs hv)
theorem q1z3 {R:Type} {r:R} {v:Bool} {A B:Option R} {c:Operand} {x y:Code} {s:St} (hc:stev s c=.bool v) (h:(bif v then A else B)=some r) (ht:A=some r->RunI l P V w0 φ0 N x s Q) (hf:B=some r->RunI l P V w0 φ0 N y s Q):RunI l P V w0 φ0 N (.cond c x y) s Q:=fun a w hs hv=>by
 obtain⟨η,h1,_⟩:=hs.sr
 have hx:=q63 (h1 0).tr c
 rw[show xev (q8k s.tm .lf) c=.bool v from hc]at hx
 have hcv:a.eval c=.bool v:=by
  generalize a.eval c=u at hx
  cases hx;rfl
 refine wpIn_cond hcv ?_
 cases v with
 | true=>exact ht h a w hs hv
 | false=>exact hf h a w hs hv
theorem q1z4 (hm:P.follows .mixedOrders=true) (hT:TysOK P T) (hC:OrcOK P C) {ns:List Nat} (hV:∀ n v,V n v->n∈ns) {R Y:Type} {r:R} {rid:Nat} {ops:Array Oper} {draw:Bool} {keep:List (Nat×Kd)} {s:St} {t:Dt Y} {S:Y->St} {K:Y->Option R}
 (hd:dstB ns ops=true) (hnd:q1yi ops=true) (hreg:treg T C N ops draw keep s some=t.eval fun y=>some (S y)) (h:t.eval K=some r) (hk:∀ y,K y=some r->CnI V w0 φ0 N (S y) Q .normal):RunI l P V w0 φ0 N (.region rid ops draw) s Q:=by
 obtain⟨y,h1,h2⟩:=t.one h
 rw[h2]at hreg
 obtain⟨s',h3,h4⟩:=q9h (D:=φ0.D) hm hT hC hreg
 injection h3 with h3;subst h3
 intro a w hs hv
 have h5:=h4 w0 φ0 a w (fun e a w=>e=.normal/\SS w0 φ0 N (S y) a w) rfl hs fun a' w' h=>⟨rfl,h⟩
 have h6:=q1yp (l:=l) (n:=0) (id:=rid) hm (by rintro⟨a2,w2,h2⟩;cases h2.1.1) hnd (qfv hV hd hv h5)
 refine wpIn_mono h6 fun e a' w' ⟨⟨he,h7⟩,h8⟩=>?_
 subst he
 exact hk y h1 a' w' h7 (h8 rfl)
end
structure OnlyB (b:Nat) (A B:World):Prop where
 size:B.heap.size=A.heap.size
 same:∀ k,k≠b->B.heap[k]?=A.heap[k]?
 os:B.os=A.os
 tape:B.tape=A.tape
 output:B.output=A.output
 drawn:B.drawn=A.drawn
theorem OnlyB.put (A:World) (b:Nat) (o:Obj):OnlyB b A (A.putObj b o):=⟨by rw[World.putObj_size],fun k hk=>World.putObj_heap_other hk,rfl,rfl,rfl,rfl⟩
theorem HR.only {M:Nat} {η:Emb} {H:LH} {A B:World} {b:Nat} (h:HR M η H A) (hb:OnlyB b A B) (hl:¬ LB H η b) (hf:η.fz b=none):HR M η H B where
 dom:=h.dom
 lt:=h.lt
 live k ob hk:=(h.live k ob hk).move (Emb.le_refl _) rfl (Nat.le_of_eq hb.size.symm) fun L hL=>hb.same _ fun he=>hl ⟨k,ob,L,hk,hL,he⟩
 inj:=h.inj
 fz k ob hk:=by rw[hb.same k fun he=>by rw[he,hf]at hk;cases hk];exact h.fz k ob hk
 sep:=h.sep
 ok:=h.ok
theorem Fr.only {w0:World} {φ0:Fz0} {H:LH} {η:Emb} {A B:World} {b:Nat} (h:Fr w0 φ0 H η A) (hb:OnlyB b A B) (h0:w0.heap.size<=b∨φ0.X b) (hk:∀ o,¬ φ0.K b o):Fr w0 φ0 H η B where
 size:=by rw[hb.size];exact h.size
 same k hlt hx:=(hb.same k (fun he=>h0.elim (fun h1=>by omega) fun h1=>hx (by rw[he];exact h1))).trans (h.same k hlt hx)
 lb:=h.lb
 fz0:=h.fz0
 fzn:=h.fzn
 os:=hb.os.trans h.os
 tape:=hb.tape.trans h.tape
 output:=hb.output.trans h.output
 drawn:=by rw[hb.drawn];exact h.drawn
 kp k o ho:=by
  obtain⟨h1,h2,h3⟩:=h.kp k o ho
  exact⟨(hb.same k fun he=>hk o (by rw[← he];exact ho)).trans h1,h2,h3⟩
section
open Go.RowKit
variable {F:Fence} {n:Nat} {P:Program}
def SeqT {α:Type} (F:Fence) (n:Nat) (P:Program) (g:Nat) (lb:Array Value) (encs:α->Array Value) (b:Nat) (Kp:World->World->Prop) (xs:List α) (w:World):Prop :=
 ∀ (l:Nat) (J:(Nat->Prop)->List α->World->Prop) (W:World),Below w.heap.size w W->(∀ T s A B,J T s A->OnlyB b A B->J T s B) ->
  (∀ T s A B,J T s A->Bel A B->J (fun k=>T k∨(A.heap.size<=k/\k<B.heap.size)) s B) ->
  (∀ T pre x rest A,xs=pre++x::rest->J T pre A->YieldAt F (n-1) P l (encs x) A fun e B=>e=.returned (.bool true)/\J T (pre ++ [x]) B/\Kp A B/\∀ k,T k->B.heap[k]?=A.heap[k]?) ->
  J (fun _=>False) [] W->CallsIn F n P g (#[.func (.yield l) #[] #[]] ++ lb) W fun e B=>(∃ v,e=.returned v)/\∃ T,J T xs B
theorem q1z5 {α:Type} {g:Operand} {ps:Array Tmp} {assign body:Code} {Q:Exit->Act->World->Prop} {a:Act} {w:World}
 (hro:F.round=none) (h1:1<=n) {gf:Nat} {lb:Array Value} (hg:a.eval g=.func (.func gf) #[] lb) (hFg:F.fn gf) (eg:∀ args w,(callFunc gf args).run P w=.ok (.enter gf args) w)
 {encs:α->Array Value} {kb:Nat} {Kp:World->World->Prop} {xs:List α} (hseq:SeqT F (n-1) P gf lb encs kb Kp xs w) (hkb:kb<w.heap.size)
 (hKt:∀ {A B D:World},Kp A B->Kp B D->Kp A D) (hKb:∀ (W:World) (o:Obj),Kp W (W.putObj (w.heap.size+1) o)) (hps:∀ x,(encs x).size=ps.size)
 (I:(Nat->Prop)->List α->World->Prop) (hIC:∀ T s A B,I T s A->OnlyB kb A B->I T s B) (hIB:∀ T s A B,I T s A->Bel A B->I (fun k=>T k∨(A.heap.size<=k/\k<B.heap.size)) s B)
 (hIp:∀ T s (A:World) (o:Obj),I T s A->w.heap.size+1<A.heap.size->I T s (A.putObj (w.heap.size+1) o)) (hT:∀ T s A k,I T s A->T k->k≠w.heap.size+1)
 (h0:∀ r,I (fun _=>False) [] ((w.alloc (.deferred (some []))).alloc (.loop r)))
 (hround:∀ (l:Nat) (T:Nat->Prop) (pre:List α) (x:α) (rest:List α) (W:World) (o o':Obj),xs=pre++x::rest->I T pre W->W.heap[w.heap.size+1]?=some o->W.heap[w.heap.size]?=some o' ->
 assign.wpIn (F.inRound l) (n-1-1) P (Exit.then (fun a1 W1=>W1.heap[w.heap.size+1]?=some o/\Kp W W1/\(∀ k,T k->W1.heap[k]?=W.heap[k]?)/\∀ o2,
 body.wpIn (F.inRound l) (n-1-1) P (fun e _ W'=>e=.normal/\W'.heap[w.heap.size+1]?=some o2/\W'.heap[w.heap.size]?=some o'/\Kp (W1.putObj (w.heap.size+1) o2) W'/\(∀ k,T k->W'.heap[k]?=W1.heap[k]?)/\I T (pre ++ [x]) W') a1 (W1.putObj (w.heap.size+1) o2)) (fun _ _ _=>False))
 { tmps:=(ps.zip (encs x)).foldl (fun t (p,v)=>t.setIfInBounds p v) a.tmps,defers:=[] } W)
 (hdone:∀ (T:Nat->Prop) (W:World),I T xs W->W.heap[w.heap.size]?=some (.deferred (some []))->Q .normal { a with defers:={ target:=.collected w.heap.size,args:=#[] } :: a.defers } W) :
 (Code.rangeFunc g ps assign body).wpIn F n P Q a w:=by
 refine wpIn_rangeFunc ?_
 intro fn hfn
 rw[hro]
 obtain⟨rc,hrc⟩:∃ rc:LoopState->Loop,rc=fun st=>{ state:=st,pending:=none,fn,tmps:=a.tmps,params:=ps,assign,body,defers:=w.heap.size }:=⟨_,rfl⟩
 obtain⟨V,hV⟩:∃ V,(w.alloc (.deferred (some []))).alloc (.loop (rc .ready))=V:=⟨_,rfl⟩
 have vl:V.heap[w.heap.size+1]?=some (.loop (rc .ready)):=by
  have:=World.alloc_heap_new (w.alloc (.deferred (some []))) (.loop (rc .ready))
  rw[World.size_alloc]at this
  rw[← hV];exact this
 have vd:V.heap[w.heap.size]?=some (.deferred (some [])):=by
  rw[← hV];exact (Below.heap_alloc _ _ _ (by simp)).trans (World.alloc_heap_new w _)
 have vb:Below w.heap.size w V:=by rw[← hV];exact ((Below.refl _ w).alloc (Nat.le_refl _) _).alloc (by simp) _
 have vI:I (fun _=>False) [] V:=by rw[← hV];exact h0 _
 refine⟨w.heap.size+1,[{ target:=.collected w.heap.size,args:=#[] }],V,{ target:=.fn (.func gf) lb,args:=#[.func (.yield (w.heap.size+1)) #[] #[]] },V,gf,
  #[.func (.yield (w.heap.size+1)) #[] #[]] ++ lb,V,?_,?_,?_,?_,fun _=>h1,?_⟩
 ·rw[← hV,hrc];exact run_enterLoop_outer _ _ _ _ _
 ·simp only[resolve,hg]
  simp[go_sem]
 ·intro f hf;simp[Target.leads]at hf;rw[← hf];exact hFg
 ·simp[invoke,go_sem,eg]
 ·refine (hseq (w.heap.size+1) (fun T pre W=>I T pre W/\W.heap[w.heap.size+1]?=some (.loop (rc .ready))/\W.heap[w.heap.size]?=some (.deferred (some []))) V vb
   (fun T s A B h hAB=>⟨hIC T s A B h.1 hAB,(hAB.same _ (by omega)).trans h.2.1,(hAB.same _ (by omega)).trans h.2.2⟩)
   (fun T s A B h hAB=>⟨hIB T s A B h.1 hAB,(hAB.block _ (Array.getElem?_eq_some_iff.1 h.2.1).1).trans h.2.1,(hAB.block _ (Array.getElem?_eq_some_iff.1 h.2.2).1).trans h.2.2⟩) ?_ ⟨vI,vl,vd⟩).mono ?_
  ·rintro T pre x rest W hxs ⟨hi,hl,hk⟩
   have hlt:w.heap.size+1<W.heap.size:=(Array.getElem?_eq_some_iff.1 hl).1
   have hy:=run_yield (P:=P) (args:=encs x) hl (by rw[hrc];exact hps x)
   rw[hrc]at hy
   refine⟨fn,_,assign,body,hy,roundIn_of_wpIn hfn (wpIn_mono (hround _ T pre x rest W _ _ hxs hi hl hk) ?_)⟩
   intro e a1 W1 hK
   have hn:e=.normal:=by cases e<;>first | rfl | exact (show False from hK).elim
   subst hn
   obtain⟨hl1,hK1,hT1,hb⟩:=hK
   refine⟨_,run_beginRound hl1 (by rw[hrc]),?_⟩
   refine wpIn_mono (hb _) ?_
   rintro e a3 Z ⟨rfl,zl,zd,zK,zT,zI⟩
   have hr:=run_endRound (P:=P) none zl
   rw[hrc]at hr
   have zlt:w.heap.size+1<Z.heap.size:=(Array.getElem?_eq_some_iff.1 zl).1
   refine⟨_,_,hr,rfl,⟨hIp _ _ _ _ zI zlt,?_,?_⟩,hKt (hKt (hKt hK1 (hKb _ _)) zK) (hKb _ _),fun k hk=>(World.putObj_heap_other (hT _ _ _ k hi hk)).trans ((zT k hk).trans (hT1 k hk))⟩
   ·rw[hrc];exact World.putObj_heap_same zlt
   ·exact (World.putObj_heap_other (by omega)).trans zd
  ·rintro e Z ⟨⟨v,rfl⟩,T,zI,zl,zd⟩
   have he:=run_endLoop (P:=P) zl (by rw[hrc];simp)
   rw[hrc]at he
   exact⟨none,_,he,hdone T _ (hIp _ _ _ _ zI (Array.getElem?_eq_some_iff.1 zl).1) ((World.putObj_heap_other (by omega)).trans zd)⟩
end
end Go.Tx