/- Walks of the references; the orders agree; examples. -/
import Derived.Shelf.SlSortCmp.NoneTotal
import Derived.Test.YtbjpmdhdoggobaaProg
import Derived.Shelf.Spec.BitsCarry
import Derived.Test.YtbjpmdhdoggobaaGc
set_option linter.unusedSimpArgs false
set_option linter.unusedVariables false
namespace Go.Proofs.Ytbjpmdhdoggobaa
open Go Go.Tx Go.Pel Go.Proofs.Try
set_option maxRecDepth 100000
set_option maxHeartbeats 0
abbrev qs3:List Pk:=[.row RLiE false,.row RLiE false]
abbrev qs4:Type:=DLiE×DLiE×Unit
abbrev qs5:Type:=Bool
def qs6 (r:qs5):LV×List Ob:=(.bool r,[])
def qs7 (F:qs4→Option qs5):Go.Tx.Spec:=⟨12,qs3,qs5,F,qs6⟩
def qs8 (x:qs4):Bool:=decide ((idsI x.1.1).length≤1000000)&&decide ((idsI x.2.1.1).length≤1000000)
def qs9 (d:Nat) (x:qs4):Option qs5:=bif qs8 x then some (decide ((idsI x.1.1)=(idsI x.2.1.1))) else none
theorem qsb (d:Nat):COK prog (qs7 (qs9 d)):=by
 refine qi6 (qi7 (fn:=f12) (by kernel_rfl) (by kernel_rfl) (by kernel_rfl)) fun x r hx w φ vs hφ hv=>?_
 have hx:qs9 d x=some r:=hx
 unfold qs9 at hx
 obtain ⟨hc,rfl⟩:=qjm hx
 have hv:VRs (Emb.fro φ) [.fz RI x.1.1,.fz RI x.2.1.1] vs:=hv
 obtain ⟨v0,vs,rfl,q0,hv⟩:=VRs.uncons hv
 obtain ⟨v1,rfl,q1⟩:=vrs1 hv
 obtain ⟨A0,c0,rfl,s0,z0⟩:=qjg hφ q0
 obtain ⟨A1,c1,rfl,s1,z1⟩:=qjg hφ q1
 unfold qs8 at hc
 simp only [Bool.and_eq_true] at hc
 obtain ⟨h1,h2⟩:=hc
 replace h1:=of_decide_eq_true h1
 replace h2:=of_decide_eq_true h2
 refine (qpa A0 A1 c0 c1 (idsI x.1.1) (idsI x.2.1.1) w s0 s1 h1 h2).mono ?_
 rintro e w' ⟨rfl,y,rfl⟩
 exact qi4 hφ (.bool _) y
abbrev qsc:List Pk:=[.row qjy true,.row Ri false]
abbrev qsd:Type:=qjz×Di×Unit
abbrev qse:Type:=Int×Int×Int×Int
def qsf (r:qse):LV×List Ob:=(.tup [.agg [.int .i64 r.1,.int .i64 r.2.1,.int .i64 r.2.2.1],.int .i64 r.2.2.2],[])
def qsg (F:qsd→Option qse):Go.Tx.Spec:=⟨26,qsc,qse,F,qsf⟩
def qsh (x:qsd):Bool:=true
def qsi (d:Nat) (x:qsd):Option qse:=bif qsh x then some ((qh8 (ptsL x.1.1) x.2.1.1).1.id,(qh8 (ptsL x.1.1) x.2.1.1).1.a,(qh8 (ptsL x.1.1) x.2.1.1).1.b,(qh8 (ptsL x.1.1) x.2.1.1).2) else none
theorem qsk (d:Nat):COK prog (qsg (qsi d)):=by
 refine qi6 (qi7 (fn:=f26) (by kernel_rfl) (by kernel_rfl) (by kernel_rfl)) fun x r hx w φ vs hφ hv=>?_
 have hx:qsi d x=some r:=hx
 unfold qsi at hx
 obtain ⟨hc,rfl⟩:=qjm hx
 have hv:VRs (Emb.fro φ) [.agg [.fz RP x.1.1],.int .i64 x.2.1.1] vs:=hv
 obtain ⟨v0,vs,rfl,q0,hv⟩:=VRs.uncons hv
 obtain ⟨v1,rfl,q1⟩:=vrs1 hv
 obtain ⟨A0,c0,rfl,s0,z0⟩:=qjh hφ q0
 have r1:=qi1 q1;subst r1
 refine (qo3 A0 c0 (ptsL x.1.1) x.2.1.1 w s0).mono ?_
 rintro e w' ⟨rfl,y,rfl⟩
 exact qi4 hφ (VR.tupL (VRs.cons (VR.aggL (VRs.cons (.int _ _) (VRs.cons (.int _ _) (VRs.cons (.int _ _) VRs.nil)))) (VRs.cons (.int _ _) VRs.nil))) y
abbrev qsl:List Pk:=[.row qjy true,.row Rii true]
abbrev qsm:Type:=qjz×Dii×Unit
abbrev qsn:Type:=List Di×Int
def qso (r:qsn):LV×List Ob:=(.tup [.rs 0,.int .i64 r.2],[.rows Ri r.1])
def qsp (F:qsm→Option qsn):Go.Tx.Spec:=⟨14,qsl,qsn,F,qso⟩
def qsq (x:qsm):Bool:=i64B x.2.1.1&&i64B x.2.1.2.1&&decide ((ptsL x.1.1).length≤1000000)
def qsr (d:Nat) (x:qsm):Option qsn:=bif qsq x then some (unI (qro (ptsL x.1.1) x.2.1.1 x.2.1.2.1).1,(qro (ptsL x.1.1) x.2.1.1 x.2.1.2.1).2) else none
theorem qst (d:Nat):COK prog (qsp (qsr d)):=by
 refine qi6 (qi7 (fn:=f14) (by kernel_rfl) (by kernel_rfl) (by kernel_rfl)) fun x r hx w φ vs hφ hv=>?_
 have hx:qsr d x=some r:=hx
 unfold qsr at hx
 obtain ⟨hc,rfl⟩:=qjm hx
 have hv:VRs (Emb.fro φ) [.agg [.fz RP x.1.1],.agg [.int .i64 x.2.1.1,.int .i64 x.2.1.2.1]] vs:=hv
 obtain ⟨v0,vs,rfl,q0,hv⟩:=VRs.uncons hv
 obtain ⟨v1,rfl,q1⟩:=vrs1 hv
 obtain ⟨A0,c0,rfl,s0,z0⟩:=qjh hφ q0
 have r1:=qi0 q1;subst r1
 unfold qsq at hc
 simp only [Bool.and_eq_true] at hc
 obtain ⟨⟨h1,h2⟩,h3⟩:=hc
 replace h3:=of_decide_eq_true h3
 refine ((qrt (ptsL x.1.1) x.2.1.1 x.2.1.2.1) ▸ qoz A0 c0 (ptsL x.1.1) x.2.1.1 x.2.1.2.1 w (qjj h1) (qjj h2) s0 z0 h3).mono ?_
 rintro e w' ⟨A',c',rfl,y,rfl,ho⟩
 exact qi5 hφ (τ:=Ri) rfl (qjc _) ho (qjf _) fun η e0=>VR.tupL (VRs.cons (.rs e0) (VRs.cons (.int _ _) VRs.nil))
end Go.Proofs.Ytbjpmdhdoggobaa

namespace Go.Proofs
open Go.Shelf
def Try.laysSortR_ren:Go.Shelf.Ren:=⟨fun | 6=>21 | 15=>34 | 14=>33 | 28=>59 | 29=>60 | 20=>51 | 21=>52 | 22=>53 | 23=>54 | 24=>55 | 25=>56 | 26=>57 | 27=>58 | 46=>74 | 47=>75 | 48=>76 | 49=>77 | 50=>78 | 57=>92 | n=>n,fun | 22=>30 | 24=>28 | 25=>58 | 3=>3 | 39=>73 | 0=>0 | 53=>104 | 55=>67 | 4=>4 | 46=>97 | 45=>96 | 50=>101 | 5=>5 | 9=>9 | 66=>119 | 70=>123 | 76=>135 | 77=>136 | n=>n,fun | n=>n⟩
theorem Try.laysSortR:Go.Proofs.SlLaysF0.n6 Try.prog Try.laysSortR_ren:={
  mixed:=by kernel_rfl
  f6:=⟨Try.f21.name,by decide,Try.func21.trans (congrArg some (by kernel_rfl))⟩
  f14:=⟨Try.f33.name,by decide,Try.func33.trans (congrArg some (by kernel_rfl))⟩
  f15:=Try.func34.trans (congrArg some (by kernel_rfl))
  f20:=⟨Try.f51.name,by decide,Try.func51.trans (congrArg some (by kernel_rfl))⟩
  f21:=⟨Try.f52.name,by decide,Try.func52.trans (congrArg some (by kernel_rfl))⟩
  f22:=⟨Try.f53.name,by decide,Try.func53.trans (congrArg some (by kernel_rfl))⟩
  f23:=⟨Try.f54.name,by decide,Try.func54.trans (congrArg some (by kernel_rfl))⟩
  f24:=⟨Try.f55.name,by decide,Try.func55.trans (congrArg some (by kernel_rfl))⟩
  f25:=⟨Try.f56.name,by decide,Try.func56.trans (congrArg some (by kernel_rfl))⟩
  f26:=⟨Try.f57.name,by decide,Try.func57.trans (congrArg some (by kernel_rfl))⟩
  f27:=⟨Try.f58.name,by decide,Try.func58.trans (congrArg some (by kernel_rfl))⟩
  f28:=Try.func59.trans (congrArg some (by kernel_rfl))
  f29:=Try.func60.trans (congrArg some (by kernel_rfl))
  f46:=⟨Try.f74.name,by decide,Try.func74.trans (congrArg some (by kernel_rfl))⟩
  f47:=Try.func75.trans (congrArg some (by kernel_rfl))
  f48:=Try.func76.trans (congrArg some (by kernel_rfl))
  f49:=⟨Try.f77.name,by decide,Try.func77.trans (congrArg some (by kernel_rfl))⟩
  f50:=⟨Try.f78.name,by decide,Try.func78.trans (congrArg some (by kernel_rfl))⟩
  f57:=⟨Try.f92.name,by decide,Try.func92.trans (congrArg some (by kernel_rfl))⟩
  t0:=Try.underlying0
  a0:=Try.isAgg0
  z0:=Try.sizeOf0
  v0:=Try.zeroValue0
  t3:=Try.underlying3
  a3:=Try.isAgg3
  z3:=Try.sizeOf3
  v3:=Try.zeroValue3
  t4:=Try.underlying4
  a4:=Try.isAgg4
  z4:=Try.sizeOf4
  v4:=Try.zeroValue4
  t5:=Try.underlying5
  a5:=Try.isAgg5
  z5:=Try.sizeOf5
  v5:=Try.zeroValue5
  t9:=Try.underlying9
  a9:=Try.isAgg9
  z9:=Try.sizeOf9
  v9:=Try.zeroValue9
  t22:=Try.underlying30
  a22:=Try.isAgg30
  z22:=Try.sizeOf30
  v22:=Try.zeroValue30
  t25:=Try.underlying58
  a25:=Try.isAgg58
  z25:=Try.sizeOf58
  v25:=Try.zeroValue58
  t39:=Try.underlying73
  a39:=Try.isAgg73
  z39:=Try.sizeOf73
  v39:=Try.zeroValue73
  t45:=Try.underlying96
  a45:=Try.isAgg96
  z45:=Try.sizeOf96
  v45:=Try.zeroValue96
  t46:=Try.underlying97
  a46:=Try.isAgg97
  z46:=Try.sizeOf97
  v46:=Try.zeroValue97
  t50:=Try.underlying101
  a50:=Try.isAgg101
  z50:=Try.sizeOf101
  v50:=Try.zeroValue101
  t53:=Try.underlying104
  a53:=Try.isAgg104
  z53:=Try.sizeOf104
  v53:=Try.zeroValue104
  t55:=Try.underlying67
  a55:=Try.isAgg67
  z55:=Try.sizeOf67
  v55:=Try.zeroValue67
  t66:=Try.underlying119
  a66:=Try.isAgg119
  z66:=Try.sizeOf119
  v66:=Try.zeroValue119
  t70:=Try.underlying123
  a70:=Try.isAgg123
  z70:=Try.sizeOf123
  v70:=Try.zeroValue123
  t76:=Try.underlying135
  a76:=Try.isAgg135
  z76:=Try.sizeOf135
  v76:=Try.zeroValue135
  t77:=Try.underlying136
  a77:=Try.isAgg136
  z77:=Try.sizeOf136
  v77:=Try.zeroValue136 }
end Go.Proofs

namespace Go.Proofs.Ytbjpmdhdoggobaa
open Go Go.Tx Go.Proofs.Try
theorem qsu {g:FuncId} {F:den Rii×den Rii×Unit→Option Int} (hS:COK prog ⟨g,[.row Rii true,.row Rii true],Int,F,fun r=>(.int .i64 r,[])⟩) {C:Orc} (hC:OrcOK prog C):OrcOK prog (orcS 21 g Rii F C) :=
  qrj (τ:=Rii) (ρ:=laysSortR_ren) laysSortR rfl isAgg28 sizeOf28 hS (qi7 (fn:=f21) (by kernel_rfl) (by kernel_rfl) (by kernel_rfl)) hC
end Go.Proofs.Ytbjpmdhdoggobaa

namespace Go.Proofs.Ytbjpmdhdoggobaa
open Go Go.Tx Go.Proofs.Try
set_option maxRecDepth 100000
set_option maxHeartbeats 0
abbrev qsv:List Pk:=[.row Rii true,.row Rii true]
abbrev qsw:Type:=Dii×Dii×Unit
abbrev qsx:Type:=Int
def qsy (r:qsx):LV×List Ob:=(.int .i64 r,[])
def qsz (F:qsw→Option qsx):Go.Tx.Spec:=⟨35,qsv,qsx,F,qsy⟩
abbrev qt0:Type:=(qmi→Option qmj)×Unit
def qt1 (d:Nat):qt0:=(qmn d,())
def qt2 (C:qt0):List Go.Tx.Spec:=[qml C.1]
abbrev qt3:Type:=Int×Int×Int×Int
def qt4 (v:qt3):St:=⟨[(0,.agg [i6 v.1,i6 v.2.1]),(1,.agg [i6 v.2.2.1,i6 v.2.2.2])],[]⟩
abbrev qt5:Type:=Int×Int×Int×Int
def qt6 (v:qt5):St:=⟨[(2,.ptr 0 0),(3,.ptr 1 0)],[.cells [i6 v.1,i6 v.2.1],.cells [i6 v.2.2.1,i6 v.2.2.2]]⟩
def qt7 (C:qt0) (v:qt3):Dt qt5:=(Dt.ret (v.1,v.2.1,v.2.2.1,v.2.2.2))
abbrev q24c {V Y:Type}:=@rg qt0 V Y tysT (fun C=>(orc (qt2 C))) 10
theorem qt8 C v:q24c (regO (qdk f35) 0) false (an [2,3]) qt4 qt7 qt6 C v:=rgI (by kernel_rfl)
abbrev qt9:Type:=Int
def qta (v:qt9):St:=⟨[(4,i6 v)],[]⟩
def qtb (C:qt0) (v:qt5):Dt qt9:=(Dt.bnd (C.1 ((v.1,v.2.1,()),())) fun r1=>(Dt.bnd (C.1 ((v.2.2.1,v.2.2.2,()),())) fun r2=>(Dt.ret (tmax r1 r2))))
theorem qtc C v:q24c (regO (qdk f35) 1) true [(4,.any)] qt6 qtb qta C v:=rgI (by kernel_rfl)
def qtd (d:Nat) (x:qsw):Option qsx :=
 (qt7 (qt1 d) (x.1.1,x.1.2.1,x.2.1.1,x.2.1.2.1)).eval fun y0 =>
 (qtb (qt1 d) y0).eval fun y1 =>
 some y1
theorem qte (d:Nat):COK prog (qsz (qtd d)):=by
 have hm:prog.follows .mixedOrders=true:=mixed
 have hT:=tys
 have hC0:OrcOK prog (orc (qt2 (qt1 d))):=qde (by
  intro S hS
  simp only [qt2,List.mem_cons,List.not_mem_nil,or_false] at hS
  subst hS;exact qmp d)
 have hC:OrcOK prog (orc (qt2 (qt1 d))):=hC0
 refine q93 (c:=qdk f35) (fn:=f35) hT (by kernel_rfl) (by kernel_rfl) (by decide) fun x r h w0 φ0 Q hend=>?_
 replace h:qtd d x=some r:=h
 unfold qtd at h
 show Run prog w0 φ0 10 (qdk f35) ⟨[(0,.agg [.int .i64 x.1.1,.int .i64 x.1.2.1]),(1,.agg [.int .i64 x.2.1.1,.int .i64 x.2.1.2.1])],[]⟩ Q
 refine q24b hm hT hC (qt8 (qt1 d) (x.1.1,x.1.2.1,x.2.1.1,x.2.1.2.1)) h fun y0 h=>?_
 refine q24b hm hT hC (qtc (qt1 d) y0) h fun y1 h=>?_
 refine q8l ?_
 cases h
 exact (hend _ (by kernel_rfl)).2
abbrev qtf:List Pk:=[.row Ri false]
abbrev qtg:Type:=Di×Unit
abbrev qth:Type:=Bool
def qti (r:qth):LV×List Ob:=(.bool r,[])
def qtj (F:qtg→Option qth):Go.Tx.Spec:=⟨61,qtf,qth,F,qti⟩
abbrev qtk:Type:=Unit
def qtl (_d:Nat):qtk:=()
def qtm (C:qtk):List Go.Tx.Spec:=[]
abbrev qtn:Type:=Int
def qto (v:qtn):St:=⟨[(0,i6 v)],[]⟩
def qtp (C:qtk) (v:qtn):Dt qtn:=(Dt.ret v)
abbrev q24d {V Y:Type}:=@rg qtk V Y tysT (fun C=>(orc (qtm C))) 6
theorem qtq C v:q24d (regO (qdk f61) 0) false [(0,.any)] qto qtp qto C v:=rgI (by kernel_rfl)
abbrev qtr:Type:=Bool
def qts (v:qtr):St:=⟨[(2,.bool v)],[]⟩
def qtt (C:qtk) (v:qtn):Dt qtr:=(Dt.ret (v != v))
theorem qtu C v:q24d (regO (qdk f61) 1) false [(2,.any)] qto qtt qts C v:=rgI (by kernel_rfl)
def qtv (d:Nat) (x:qtg):Option qth :=
 (qtp (qtl d) x.1.1).eval fun y0 =>
 (qtt (qtl d) y0).eval fun y1 =>
 some y1
theorem qtw (d:Nat):COK prog (qtj (qtv d)):=by
 have hm:prog.follows .mixedOrders=true:=mixed
 have hT:=tys
 have hC0:OrcOK prog (orc (qtm (qtl d))):=qde (by
  intro S hS
  simp only [qtm,List.mem_cons,List.not_mem_nil,or_false] at hS
  all_goals first | cases hS | exact hS.elim)
 have hC:OrcOK prog (orc (qtm (qtl d))):=hC0
 refine q93 (c:=qdk f61) (fn:=f61) hT (by kernel_rfl) (by kernel_rfl) (by decide) fun x r h w0 φ0 Q hend=>?_
 replace h:qtv d x=some r:=h
 unfold qtv at h
 show Run prog w0 φ0 6 (qdk f61) ⟨[(0,.int .i64 x.1.1)],[]⟩ Q
 refine q24b hm hT hC (qtq (qtl d) x.1.1) h fun y0 h=>?_
 refine q24b hm hT hC (qtu (qtl d) y0) h fun y1 h=>?_
 refine q8l ?_
 cases h
 exact (hend _ (by kernel_rfl)).2
abbrev qtx:List Pk:=[.row Ri false,.row Ri false]
abbrev qty:Type:=Di×Di×Unit
abbrev qtz:Type:=Int
def qu0 (r:qtz):LV×List Ob:=(.int .i64 r,[])
def qu1 (F:qty→Option qtz):Go.Tx.Spec:=⟨36,qtx,qtz,F,qu0⟩
abbrev qu2:Type:=(qtg→Option qth)×Unit
def qu3 (d:Nat):qu2:=(qtv d,())
def qu4 (C:qu2):List Go.Tx.Spec:=[qtj C.1]
abbrev qu5:Type:=Int×Int
def qu6 (v:qu5):St:=⟨[(0,i6 v.1),(1,i6 v.2)],[]⟩
def qu7 (C:qu2) (v:qu5):Dt qu5:=(Dt.ret (v.1,v.2))
abbrev q24e {V Y:Type}:=@rg qu2 V Y tysT (fun C=>(orc (qu4 C))) 20
theorem qu8 C v:q24e (regO (qdk f36) 0) false (an [0,1]) qu6 qu7 qu6 C v:=rgI (by kernel_rfl)
abbrev qu9:Type:=Int×Int×Bool
def qua (v:qu9):St:=⟨[(0,i6 v.1),(1,i6 v.2.1),(5,.bool v.2.2)],[]⟩
def qub (C:qu2) (v:qu5):Dt qu9:=(Dt.bnd (C.1 ((v.1,()),())) fun r1=>(Dt.ret (v.1,v.2,r1)))
theorem quc C v:q24e (regO (qdk f36) 1) false (an [0,1,5]) qu6 qub qua C v:=rgI (by kernel_rfl)
abbrev qud:Type:=Int×Int×Bool×Bool
def que (v:qud):St:=⟨[(0,i6 v.1),(1,i6 v.2.1),(5,.bool v.2.2.1),(6,.bool v.2.2.2)],[]⟩
def quf (C:qu2) (v:qu9):Dt qud:=(Dt.bnd (C.1 ((v.2.1,()),())) fun r1=>(Dt.ret (v.1,v.2.1,v.2.2,r1)))
theorem qug C v:q24e (regO (qdk f36) 2) false (an [0,1,5,6]) qua quf que C v:=rgI (by kernel_rfl)
abbrev quh:Type:=Int×Int×Bool×Bool
def qui (v:quh):St:=⟨[(0,i6 v.1),(1,i6 v.2.1),(6,.bool v.2.2.1),(11,.bool v.2.2.2)],[]⟩
def quj (C:qu2) (v:qud):Dt quh:=(Dt.ret (v.1,v.2.1,v.2.2.2,v.2.2.1))
theorem quk C v:q24e (regO (qdk f36) 3) false (an [0,1,6,11]) que quj qui C v:=rgI (by kernel_rfl)
abbrev qul:Type:=Bool
def qum (v:qul):St:=⟨[(12,.bool v)],[]⟩
def qun (C:qu2) (v:quh):Dt qul:=(Dt.ret v.2.2.1)
theorem qup C v:q24e (regO (qdk f36) 4) false [(12,.any)] qui qun qum C v:=rgI (by kernel_rfl)
abbrev quq:Type:=Int
def qur (v:quq):St:=⟨[(4,i6 v)],[]⟩
def qus (C:qu2) (v:qul):Dt quq:=(Dt.ret (0:Int))
theorem qut C v:q24e (regO (qdk f36) 5) false [(4,.any)] qum qus qur C v:=rgI (by kernel_rfl)
def quu (C:qu2) (v:qul):Dt quq:=(Dt.ret (-1:Int))
theorem quv C v:q24e (regO (qdk f36) 6) false [(4,.any)] qum quu qur C v:=rgI (by kernel_rfl)
abbrev quw:Type:=Int×Int×Bool
def qux (v:quw):St:=⟨[(0,i6 v.1),(1,i6 v.2.1),(13,.bool v.2.2)],[]⟩
def quy (C:qu2) (v:quh):Dt quw:=(Dt.ret (v.1,v.2.1,v.2.2.1))
theorem quz C v:q24e (regO (qdk f36) 7) false (an [0,1,13]) qui quy qux C v:=rgI (by kernel_rfl)
def qv0 (C:qu2) (v:quw):Dt quq:=(Dt.ret (1:Int))
theorem qv1 C v:q24e (regO (qdk f36) 8) false [(4,.any)] qux qv0 qur C v:=rgI (by kernel_rfl)
abbrev qv2:Type:=Int×Int×Bool
def qv3 (v:qv2):St:=⟨[(0,i6 v.1),(1,i6 v.2.1),(16,.bool v.2.2)],[]⟩
def qv4 (C:qu2) (v:quw):Dt qv2:=(Dt.ret (v.1,v.2.1,(decide (v.1<v.2.1))))
theorem qv5 C v:q24e (regO (qdk f36) 9) false (an [0,1,16]) qux qv4 qv3 C v:=rgI (by kernel_rfl)
def qv6 (C:qu2) (v:qv2):Dt quq:=(Dt.ret (-1:Int))
theorem qv7 C v:q24e (regO (qdk f36) 10) false [(4,.any)] qv3 qv6 qur C v:=rgI (by kernel_rfl)
abbrev qv8:Type:=Bool
def qv9 (v:qv8):St:=⟨[(19,.bool v)],[]⟩
def qva (C:qu2) (v:qv2):Dt qv8:=(Dt.ret (decide (v.1 > v.2.1)))
theorem qvb C v:q24e (regO (qdk f36) 11) false [(19,.any)] qv3 qva qv9 C v:=rgI (by kernel_rfl)
def qvc (C:qu2) (v:qv8):Dt quq:=(Dt.ret (1:Int))
theorem qvd C v:q24e (regO (qdk f36) 12) false [(4,.any)] qv9 qvc qur C v:=rgI (by kernel_rfl)
def qve (C:qu2) (v:qv8):Dt quq:=(Dt.ret (0:Int))
theorem qvf C v:q24e (regO (qdk f36) 13) false [(4,.any)] qv9 qve qur C v:=rgI (by kernel_rfl)
def qvg (d:Nat) (x:qty):Option qtz :=
 (qu7 (qu3 d) (x.1.1,x.2.1.1)).eval fun y0 =>
 (qub (qu3 d) y0).eval fun y1 =>
 (quf (qu3 d) y1).eval fun y2 =>
 (quj (qu3 d) y2).eval fun y3 =>
 bif y3.2.2.2 then ((qun (qu3 d) y3).eval fun y4 =>
 bif y4 then ((qus (qu3 d) y4).eval fun y5 =>
 some y5) else ((quu (qu3 d) y4).eval fun y6 =>
 some y6)) else ((quy (qu3 d) y3).eval fun y7 =>
 bif y7.2.2 then ((qv0 (qu3 d) y7).eval fun y8 =>
 some y8) else ((qv4 (qu3 d) y7).eval fun y9 =>
 bif y9.2.2 then ((qv6 (qu3 d) y9).eval fun y10 =>
 some y10) else ((qva (qu3 d) y9).eval fun y11 =>
 bif y11 then ((qvc (qu3 d) y11).eval fun y12 =>
 some y12) else ((qve (qu3 d) y11).eval fun y13 =>
 some y13))))
theorem qvh (d:Nat):COK prog (qu1 (qvg d)):=by
 have hm:prog.follows .mixedOrders=true:=mixed
 have hT:=tys
 have hC0:OrcOK prog (orc (qu4 (qu3 d))):=qde (by
  intro S hS
  simp only [qu4,List.mem_cons,List.not_mem_nil,or_false] at hS
  subst hS;exact qtw d)
 have hC:OrcOK prog (orc (qu4 (qu3 d))):=hC0
 refine q93 (c:=qdk f36) (fn:=f36) hT (by kernel_rfl) (by kernel_rfl) (by decide) fun x r h w0 φ0 Q hend=>?_
 replace h:qvg d x=some r:=h
 unfold qvg at h
 show Run prog w0 φ0 20 (qdk f36) ⟨[(0,.int .i64 x.1.1),(1,.int .i64 x.2.1.1)],[]⟩ Q
 refine q24b hm hT hC (qu8 (qu3 d) (x.1.1,x.2.1.1)) h fun y0 h=>?_
 refine q24b hm hT hC (quc (qu3 d) y0) h fun y1 h=>?_
 refine q24b hm hT hC (qug (qu3 d) y1) h fun y2 h=>?_
 refine q8m ?_
 refine q24b hm hT hC (quk (qu3 d) y2) h fun y3 h=>?_
 refine q8q (v:=y3.2.2.2) (by kernel_rfl) h ?_ ?_
 ·
  intro h
  refine q8m ?_
  refine q24b hm hT hC (qup (qu3 d) y3) h fun y4 h=>?_
  refine q8q (v:=y4) (by kernel_rfl) h ?_ ?_
  ·
   intro h
   refine q24b hm hT hC (qut (qu3 d) y4) h fun y5 h=>?_
   refine q8l (q8a (q8a ?_))
   cases h
   exact (hend _ (by kernel_rfl)).2
  ·
   intro h
   refine q8i (q88 ?_)
   refine q24b hm hT hC (quv (qu3 d) y4) h fun y6 h=>?_
   refine q8l (q8a ?_)
   cases h
   exact (hend _ (by kernel_rfl)).2
 ·
  intro h
  refine q8i (q88 (q8m ?_))
  refine q24b hm hT hC (quz (qu3 d) y3) h fun y7 h=>?_
  refine q8q (v:=y7.2.2) (by kernel_rfl) h ?_ ?_
  ·
   intro h
   refine q24b hm hT hC (qv1 (qu3 d) y7) h fun y8 h=>?_
   refine q8l (q8a ?_)
   cases h
   exact (hend _ (by kernel_rfl)).2
  ·
   intro h
   refine q8i (q88 (q8m ?_))
   refine q24b hm hT hC (qv5 (qu3 d) y7) h fun y9 h=>?_
   refine q8q (v:=y9.2.2) (by kernel_rfl) h ?_ ?_
   ·
    intro h
    refine q24b hm hT hC (qv7 (qu3 d) y9) h fun y10 h=>?_
    refine q8l (q8a ?_)
    cases h
    exact (hend _ (by kernel_rfl)).2
   ·
    intro h
    refine q8i (q88 (q8m ?_))
    refine q24b hm hT hC (qvb (qu3 d) y9) h fun y11 h=>?_
    refine q8q (v:=y11) (by kernel_rfl) h ?_ ?_
    ·
     intro h
     refine q24b hm hT hC (qvd (qu3 d) y11) h fun y12 h=>?_
     refine q8l (q8a ?_)
     cases h
     exact (hend _ (by kernel_rfl)).2
    ·
     intro h
     refine q8i (q88 ?_)
     refine q24b hm hT hC (qvf (qu3 d) y11) h fun y13 h=>?_
     refine q8l ?_
     cases h
     exact (hend _ (by kernel_rfl)).2
abbrev qvi:List Pk:=[.row Ri false]
abbrev qvj:Type:=Di×Unit
abbrev qvk:Type:=Int
def qvl (r:qvk):LV×List Ob:=(.int .u64 r,[])
def qvm (F:qvj→Option qvk):Go.Tx.Spec:=⟨31,qvi,qvk,F,qvl⟩
abbrev qvn:Type:=Unit
def qvo (_d:Nat):qvn:=()
def qvp (C:qvn):List Go.Tx.Spec:=[]
abbrev qvq:Type:=Int
def qvr (v:qvq):St:=⟨[(0,i6 v)],[]⟩
def qvs (C:qvn) (v:qvq):Dt qvq:=(Dt.ret v)
abbrev q24f {V Y:Type}:=@rg qvn V Y tysT (fun C=>(orc (qvp C))) 10
theorem qvt C v:q24f (regO (qdk f31) 0) false [(0,.any)] qvr qvs qvr C v:=rgI (by kernel_rfl)
abbrev qvu:Type:=Int×Bool
def qvv (v:qvu):St:=⟨[(0,i6 v.1),(4,.bool v.2)],[]⟩
def qvw (C:qvn) (v:qvq):Dt qvu:=(Dt.ret (v,(decide (v<(0:Int)))))
theorem qvx C v:q24f (regO (qdk f31) 1) false (an [0,4]) qvr qvw qvv C v:=rgI (by kernel_rfl)
abbrev qvy:Type:=Int
def qvz (v:qvy):St:=⟨[(2,u6 v)],[]⟩
def qw0 (C:qvn) (v:qvu):Dt qvy:=(Dt.ret (IntKind.wrap .u64 (0 - (IntKind.wrap .u64 v.1))))
theorem qw1 C v:q24f (regO (qdk f31) 2) false [(2,.any)] qvv qw0 qvz C v:=rgI (by kernel_rfl)
def qw2 (C:qvn) (v:qvu):Dt qvy:=(Dt.ret (IntKind.wrap .u64 v.1))
theorem qw3 C v:q24f (regO (qdk f31) 3) false [(2,.any)] qvv qw2 qvz C v:=rgI (by kernel_rfl)
def qw4 (d:Nat) (x:qvj):Option qvk :=
 (qvs (qvo d) x.1.1).eval fun y0 =>
 (qvw (qvo d) y0).eval fun y1 =>
 bif y1.2 then ((qw0 (qvo d) y1).eval fun y2 =>
 some y2) else ((qw2 (qvo d) y1).eval fun y3 =>
 some y3)
theorem qw5 (d:Nat):COK prog (qvm (qw4 d)):=by
 have hm:prog.follows .mixedOrders=true:=mixed
 have hT:=tys
 have hC0:OrcOK prog (orc (qvp (qvo d))):=qde (by
  intro S hS
  simp only [qvp,List.mem_cons,List.not_mem_nil,or_false] at hS
  all_goals first | cases hS | exact hS.elim)
 have hC:OrcOK prog (orc (qvp (qvo d))):=hC0
 refine q93 (c:=qdk f31) (fn:=f31) hT (by kernel_rfl) (by kernel_rfl) (by decide) fun x r h w0 φ0 Q hend=>?_
 replace h:qw4 d x=some r:=h
 unfold qw4 at h
 show Run prog w0 φ0 10 (qdk f31) ⟨[(0,.int .i64 x.1.1)],[]⟩ Q
 refine q24b hm hT hC (qvt (qvo d) x.1.1) h fun y0 h=>?_
 refine q8m ?_
 refine q24b hm hT hC (qvx (qvo d) y0) h fun y1 h=>?_
 refine q8q (v:=y1.2) (by kernel_rfl) h ?_ ?_
 ·
  intro h
  refine q24b hm hT hC (qw1 (qvo d) y1) h fun y2 h=>?_
  refine q8l (q8a ?_)
  cases h
  exact (hend _ (by kernel_rfl)).2
 ·
  intro h
  refine q8i (q88 ?_)
  refine q24b hm hT hC (qw3 (qvo d) y1) h fun y3 h=>?_
  refine q8l ?_
  cases h
  exact (hend _ (by kernel_rfl)).2
abbrev qw6:List Pk:=[.row Ri false,.row Ri false]
abbrev qw7:Type:=Di×Di×Unit
abbrev qw8:Type:=Bool×Int×Int
def qw9 (r:qw8):LV×List Ob:=(.agg [.bool r.1,.int .u64 r.2.1,.int .u64 r.2.2],[])
def qwa (F:qw7→Option qw8):Go.Tx.Spec:=⟨38,qw6,qw8,F,qw9⟩
abbrev qwb:Type:=(qvj→Option qvk)×(qm9→Option qma)×Unit
def qwc (d:Nat):qwb:=(qw4 d,qme d,())
def qwd (C:qwb):List Go.Tx.Spec:=[qvm C.1,qmc C.2.1]
abbrev qwe:Type:=Int×Int
def qwf (v:qwe):St:=⟨[(0,i6 v.1),(1,i6 v.2)],[]⟩
abbrev qwg:Type:=Int×Int×Bool×Int×Int
def qwh (v:qwg):St:=⟨[(0,i6 v.1),(1,i6 v.2.1),(4,.ptr 0 0)],[.cells [.bool v.2.2.1,u6 v.2.2.2.1,u6 v.2.2.2.2]]⟩
def qwi (C:qwb) (v:qwe):Dt qwg:=(Dt.ret (v.1,v.2,false,(0:Int),(0:Int)))
abbrev q24g {V Y:Type}:=@rg qwb V Y tysT (fun C=>(orc (qwd C))) 23
theorem qwj C v:q24g (regO (qdk f38) 0) false (an [0,1,4]) qwf qwi qwh C v:=rgI (by kernel_rfl)
abbrev qwk:Type:=Int×Int×Int×Int×Bool×Int×Int
def qwl (v:qwk):St:=⟨[(0,i6 v.1),(1,i6 v.2.1),(4,.ptr 0 0),(5,u6 v.2.2.1),(6,u6 v.2.2.2.1)],[.cells [.bool v.2.2.2.2.1,u6 v.2.2.2.2.2.1,u6 v.2.2.2.2.2.2]]⟩
def qwm (C:qwb) (v:qwg):Dt qwk:=(Dt.bnd (C.1 ((v.1,()),())) fun r1=>(Dt.bnd (C.1 ((v.2.1,()),())) fun r2=>(Dt.bnd (C.2.1 ((r1,()),(r2,()),())) fun r3=>(Dt.ret (v.1,v.2.1,r3.1,r3.2,v.2.2.1,v.2.2.2.1,v.2.2.2.2)))))
theorem qwn C v:q24g (regO (qdk f38) 1) false (an [0,1,4,5,6]) qwh qwm qwl C v:=rgI (by kernel_rfl)
abbrev qwo:Type:=Bool×Int×Int
def qwp (v:qwo):St:=⟨[(4,.ptr 0 0)],[.cells [.bool v.1,u6 v.2.1,u6 v.2.2]]⟩
def qwq (C:qwb) (v:qwk):Dt qwo:=(Dt.ret ((!((decide (v.1<(0:Int))) == (decide (v.2.1<(0:Int))))),v.2.2.1,v.2.2.2.1))
theorem qwr C v:q24g (regO (qdk f38) 2) false [(4,.any)] qwl qwq qwp C v:=rgI (by kernel_rfl)
def qws (d:Nat) (x:qw7):Option qw8 :=
 (qwi (qwc d) (x.1.1,x.2.1.1)).eval fun y0 =>
 (qwm (qwc d) y0).eval fun y1 =>
 (qwq (qwc d) y1).eval fun y2 =>
 some y2
theorem qwt (d:Nat):COK prog (qwa (qws d)):=by
 have hm:prog.follows .mixedOrders=true:=mixed
 have hT:=tys
 have hC0:OrcOK prog (orc (qwd (qwc d))):=qde (by
  intro S hS
  simp only [qwd,List.mem_cons,List.not_mem_nil,or_false] at hS
  rcases hS with rfl | rfl
  · exact qw5 d
  · exact qmg d)
 have hC:OrcOK prog (orc (qwd (qwc d))):=hC0
 refine q93 (c:=qdk f38) (fn:=f38) hT (by kernel_rfl) (by kernel_rfl) (by decide) fun x r h w0 φ0 Q hend=>?_
 replace h:qws d x=some r:=h
 unfold qws at h
 show Run prog w0 φ0 23 (qdk f38) ⟨[(0,.int .i64 x.1.1),(1,.int .i64 x.2.1.1)],[]⟩ Q
 refine q24b hm hT hC (qwj (qwc d) (x.1.1,x.2.1.1)) h fun y0 h=>?_
 refine q24b hm hT hC (qwn (qwc d) y0) h fun y1 h=>?_
 refine q24b hm hT hC (qwr (qwc d) y1) h fun y2 h=>?_
 refine q8l ?_
 cases h
 exact (hend _ (by kernel_rfl)).2
abbrev qwu:List Pk:=[.row Ru false]
abbrev qwv:Type:=Du×Unit
abbrev qww:Type:=Bool
def qwx (r:qww):LV×List Ob:=(.bool r,[])
def qwy (F:qwv→Option qww):Go.Tx.Spec:=⟨79,qwu,qww,F,qwx⟩
abbrev qwz:Type:=Unit
def qx0 (_d:Nat):qwz:=()
def qx1 (C:qwz):List Go.Tx.Spec:=[]
abbrev qx2:Type:=Int
def qx3 (v:qx2):St:=⟨[(0,u6 v)],[]⟩
def qx4 (C:qwz) (v:qx2):Dt qx2:=(Dt.ret v)
abbrev q24h {V Y:Type}:=@rg qwz V Y tysT (fun C=>(orc (qx1 C))) 6
theorem qx5 C v:q24h (regO (qdk f79) 0) false [(0,.any)] qx3 qx4 qx3 C v:=rgI (by kernel_rfl)
abbrev qx6:Type:=Bool
def qx7 (v:qx6):St:=⟨[(2,.bool v)],[]⟩
def qx8 (C:qwz) (v:qx2):Dt qx6:=(Dt.ret (v != v))
theorem qx9 C v:q24h (regO (qdk f79) 1) false [(2,.any)] qx3 qx8 qx7 C v:=rgI (by kernel_rfl)
def qxa (d:Nat) (x:qwv):Option qww :=
 (qx4 (qx0 d) x.1.1).eval fun y0 =>
 (qx8 (qx0 d) y0).eval fun y1 =>
 some y1
theorem qxb (d:Nat):COK prog (qwy (qxa d)):=by
 have hm:prog.follows .mixedOrders=true:=mixed
 have hT:=tys
 have hC0:OrcOK prog (orc (qx1 (qx0 d))):=qde (by
  intro S hS
  simp only [qx1,List.mem_cons,List.not_mem_nil,or_false] at hS
  all_goals first | cases hS | exact hS.elim)
 have hC:OrcOK prog (orc (qx1 (qx0 d))):=hC0
 refine q93 (c:=qdk f79) (fn:=f79) hT (by kernel_rfl) (by kernel_rfl) (by decide) fun x r h w0 φ0 Q hend=>?_
 replace h:qxa d x=some r:=h
 unfold qxa at h
 show Run prog w0 φ0 6 (qdk f79) ⟨[(0,.int .u64 x.1.1)],[]⟩ Q
 refine q24b hm hT hC (qx5 (qx0 d) x.1.1) h fun y0 h=>?_
 refine q24b hm hT hC (qx9 (qx0 d) y0) h fun y1 h=>?_
 refine q8l ?_
 cases h
 exact (hend _ (by kernel_rfl)).2
abbrev qxc:List Pk:=[.row Ru false,.row Ru false]
abbrev qxd:Type:=Du×Du×Unit
abbrev qxe:Type:=Int
def qxf (r:qxe):LV×List Ob:=(.int .i64 r,[])
def qxg (F:qxd→Option qxe):Go.Tx.Spec:=⟨62,qxc,qxe,F,qxf⟩
abbrev qxh:Type:=(qwv→Option qww)×Unit
def qxi (d:Nat):qxh:=(qxa d,())
def qxj (C:qxh):List Go.Tx.Spec:=[qwy C.1]
abbrev qxk:Type:=Int×Int
def qxl (v:qxk):St:=⟨[(0,u6 v.1),(1,u6 v.2)],[]⟩
def qxm (C:qxh) (v:qxk):Dt qxk:=(Dt.ret (v.1,v.2))
abbrev q24i {V Y:Type}:=@rg qxh V Y tysT (fun C=>(orc (qxj C))) 20
theorem qxn C v:q24i (regO (qdk f62) 0) false (an [0,1]) qxl qxm qxl C v:=rgI (by kernel_rfl)
abbrev qxo:Type:=Int×Int×Bool
def qxp (v:qxo):St:=⟨[(0,u6 v.1),(1,u6 v.2.1),(5,.bool v.2.2)],[]⟩
def qxq (C:qxh) (v:qxk):Dt qxo:=(Dt.bnd (C.1 ((v.1,()),())) fun r1=>(Dt.ret (v.1,v.2,r1)))
theorem qxr C v:q24i (regO (qdk f62) 1) false (an [0,1,5]) qxl qxq qxp C v:=rgI (by kernel_rfl)
abbrev qxs:Type:=Int×Int×Bool×Bool
def qxt (v:qxs):St:=⟨[(0,u6 v.1),(1,u6 v.2.1),(5,.bool v.2.2.1),(6,.bool v.2.2.2)],[]⟩
def qxu (C:qxh) (v:qxo):Dt qxs:=(Dt.bnd (C.1 ((v.2.1,()),())) fun r1=>(Dt.ret (v.1,v.2.1,v.2.2,r1)))
theorem qxv C v:q24i (regO (qdk f62) 2) false (an [0,1,5,6]) qxp qxu qxt C v:=rgI (by kernel_rfl)
abbrev qxw:Type:=Int×Int×Bool×Bool
def qxx (v:qxw):St:=⟨[(0,u6 v.1),(1,u6 v.2.1),(6,.bool v.2.2.1),(11,.bool v.2.2.2)],[]⟩
def qxy (C:qxh) (v:qxs):Dt qxw:=(Dt.ret (v.1,v.2.1,v.2.2.2,v.2.2.1))
theorem qxz C v:q24i (regO (qdk f62) 3) false (an [0,1,6,11]) qxt qxy qxx C v:=rgI (by kernel_rfl)
abbrev qy0:Type:=Bool
def qy1 (v:qy0):St:=⟨[(12,.bool v)],[]⟩
def qy2 (C:qxh) (v:qxw):Dt qy0:=(Dt.ret v.2.2.1)
theorem qy3 C v:q24i (regO (qdk f62) 4) false [(12,.any)] qxx qy2 qy1 C v:=rgI (by kernel_rfl)
abbrev qy4:Type:=Int
def qy5 (v:qy4):St:=⟨[(4,i6 v)],[]⟩
def qy6 (C:qxh) (v:qy0):Dt qy4:=(Dt.ret (0:Int))
theorem qy7 C v:q24i (regO (qdk f62) 5) false [(4,.any)] qy1 qy6 qy5 C v:=rgI (by kernel_rfl)
def qy8 (C:qxh) (v:qy0):Dt qy4:=(Dt.ret (-1:Int))
theorem qy9 C v:q24i (regO (qdk f62) 6) false [(4,.any)] qy1 qy8 qy5 C v:=rgI (by kernel_rfl)
abbrev qya:Type:=Int×Int×Bool
def qyb (v:qya):St:=⟨[(0,u6 v.1),(1,u6 v.2.1),(13,.bool v.2.2)],[]⟩
def qyc (C:qxh) (v:qxw):Dt qya:=(Dt.ret (v.1,v.2.1,v.2.2.1))
theorem qyd C v:q24i (regO (qdk f62) 7) false (an [0,1,13]) qxx qyc qyb C v:=rgI (by kernel_rfl)
def qye (C:qxh) (v:qya):Dt qy4:=(Dt.ret (1:Int))
theorem qyf C v:q24i (regO (qdk f62) 8) false [(4,.any)] qyb qye qy5 C v:=rgI (by kernel_rfl)
abbrev qyg:Type:=Int×Int×Bool
def qyh (v:qyg):St:=⟨[(0,u6 v.1),(1,u6 v.2.1),(16,.bool v.2.2)],[]⟩
def qyi (C:qxh) (v:qya):Dt qyg:=(Dt.ret (v.1,v.2.1,(decide (v.1<v.2.1))))
theorem qyj C v:q24i (regO (qdk f62) 9) false (an [0,1,16]) qyb qyi qyh C v:=rgI (by kernel_rfl)
def qyk (C:qxh) (v:qyg):Dt qy4:=(Dt.ret (-1:Int))
theorem qyl C v:q24i (regO (qdk f62) 10) false [(4,.any)] qyh qyk qy5 C v:=rgI (by kernel_rfl)
abbrev qym:Type:=Bool
def qyn (v:qym):St:=⟨[(19,.bool v)],[]⟩
def qyo (C:qxh) (v:qyg):Dt qym:=(Dt.ret (decide (v.1 > v.2.1)))
theorem qyp C v:q24i (regO (qdk f62) 11) false [(19,.any)] qyh qyo qyn C v:=rgI (by kernel_rfl)
def qyq (C:qxh) (v:qym):Dt qy4:=(Dt.ret (1:Int))
theorem qyr C v:q24i (regO (qdk f62) 12) false [(4,.any)] qyn qyq qy5 C v:=rgI (by kernel_rfl)
def qys (C:qxh) (v:qym):Dt qy4:=(Dt.ret (0:Int))
theorem qyt C v:q24i (regO (qdk f62) 13) false [(4,.any)] qyn qys qy5 C v:=rgI (by kernel_rfl)
def qyu (d:Nat) (x:qxd):Option qxe :=
 (qxm (qxi d) (x.1.1,x.2.1.1)).eval fun y0 =>
 (qxq (qxi d) y0).eval fun y1 =>
 (qxu (qxi d) y1).eval fun y2 =>
 (qxy (qxi d) y2).eval fun y3 =>
 bif y3.2.2.2 then ((qy2 (qxi d) y3).eval fun y4 =>
 bif y4 then ((qy6 (qxi d) y4).eval fun y5 =>
 some y5) else ((qy8 (qxi d) y4).eval fun y6 =>
 some y6)) else ((qyc (qxi d) y3).eval fun y7 =>
 bif y7.2.2 then ((qye (qxi d) y7).eval fun y8 =>
 some y8) else ((qyi (qxi d) y7).eval fun y9 =>
 bif y9.2.2 then ((qyk (qxi d) y9).eval fun y10 =>
 some y10) else ((qyo (qxi d) y9).eval fun y11 =>
 bif y11 then ((qyq (qxi d) y11).eval fun y12 =>
 some y12) else ((qys (qxi d) y11).eval fun y13 =>
 some y13))))
theorem qyv (d:Nat):COK prog (qxg (qyu d)):=by
 have hm:prog.follows .mixedOrders=true:=mixed
 have hT:=tys
 have hC0:OrcOK prog (orc (qxj (qxi d))):=qde (by
  intro S hS
  simp only [qxj,List.mem_cons,List.not_mem_nil,or_false] at hS
  subst hS;exact qxb d)
 have hC:OrcOK prog (orc (qxj (qxi d))):=hC0
 refine q93 (c:=qdk f62) (fn:=f62) hT (by kernel_rfl) (by kernel_rfl) (by decide) fun x r h w0 φ0 Q hend=>?_
 replace h:qyu d x=some r:=h
 unfold qyu at h
 show Run prog w0 φ0 20 (qdk f62) ⟨[(0,.int .u64 x.1.1),(1,.int .u64 x.2.1.1)],[]⟩ Q
 refine q24b hm hT hC (qxn (qxi d) (x.1.1,x.2.1.1)) h fun y0 h=>?_
 refine q24b hm hT hC (qxr (qxi d) y0) h fun y1 h=>?_
 refine q24b hm hT hC (qxv (qxi d) y1) h fun y2 h=>?_
 refine q8m ?_
 refine q24b hm hT hC (qxz (qxi d) y2) h fun y3 h=>?_
 refine q8q (v:=y3.2.2.2) (by kernel_rfl) h ?_ ?_
 ·
  intro h
  refine q8m ?_
  refine q24b hm hT hC (qy3 (qxi d) y3) h fun y4 h=>?_
  refine q8q (v:=y4) (by kernel_rfl) h ?_ ?_
  ·
   intro h
   refine q24b hm hT hC (qy7 (qxi d) y4) h fun y5 h=>?_
   refine q8l (q8a (q8a ?_))
   cases h
   exact (hend _ (by kernel_rfl)).2
  ·
   intro h
   refine q8i (q88 ?_)
   refine q24b hm hT hC (qy9 (qxi d) y4) h fun y6 h=>?_
   refine q8l (q8a ?_)
   cases h
   exact (hend _ (by kernel_rfl)).2
 ·
  intro h
  refine q8i (q88 (q8m ?_))
  refine q24b hm hT hC (qyd (qxi d) y3) h fun y7 h=>?_
  refine q8q (v:=y7.2.2) (by kernel_rfl) h ?_ ?_
  ·
   intro h
   refine q24b hm hT hC (qyf (qxi d) y7) h fun y8 h=>?_
   refine q8l (q8a ?_)
   cases h
   exact (hend _ (by kernel_rfl)).2
  ·
   intro h
   refine q8i (q88 (q8m ?_))
   refine q24b hm hT hC (qyj (qxi d) y7) h fun y9 h=>?_
   refine q8q (v:=y9.2.2) (by kernel_rfl) h ?_ ?_
   ·
    intro h
    refine q24b hm hT hC (qyl (qxi d) y9) h fun y10 h=>?_
    refine q8l (q8a ?_)
    cases h
    exact (hend _ (by kernel_rfl)).2
   ·
    intro h
    refine q8i (q88 (q8m ?_))
    refine q24b hm hT hC (qyp (qxi d) y9) h fun y11 h=>?_
    refine q8q (v:=y11) (by kernel_rfl) h ?_ ?_
    ·
     intro h
     refine q24b hm hT hC (qyr (qxi d) y11) h fun y12 h=>?_
     refine q8l (q8a ?_)
     cases h
     exact (hend _ (by kernel_rfl)).2
    ·
     intro h
     refine q8i (q88 ?_)
     refine q24b hm hT hC (qyt (qxi d) y11) h fun y13 h=>?_
     refine q8l ?_
     cases h
     exact (hend _ (by kernel_rfl)).2
abbrev qyw:List Pk:=[.row Rbuu true,.row Rbuu true]
abbrev qyx:Type:=Dbuu×Dbuu×Unit
abbrev qyy:Type:=Int
def qyz (r:qyy):LV×List Ob:=(.int .i64 r,[])
def qz0 (F:qyx→Option qyy):Go.Tx.Spec:=⟨37,qyw,qyy,F,qyz⟩
abbrev qz1:Type:=(qxd→Option qxe)×Unit
def qz2 (d:Nat):qz1:=(qyu d,())
def qz3 (C:qz1):List Go.Tx.Spec:=[qxg C.1]
abbrev qz4:Type:=Bool×Int×Int×Bool×Int×Int
def qz5 (v:qz4):St:=⟨[(0,.agg [.bool v.1,u6 v.2.1,u6 v.2.2.1]),(1,.agg [.bool v.2.2.2.1,u6 v.2.2.2.2.1,u6 v.2.2.2.2.2])],[]⟩
abbrev qz6:Type:=Bool×Int×Int×Bool×Int×Int
def qz7 (v:qz6):St:=⟨[(2,.ptr 0 0),(3,.ptr 1 0)],[.cells [.bool v.1,u6 v.2.1,u6 v.2.2.1],.cells [.bool v.2.2.2.1,u6 v.2.2.2.2.1,u6 v.2.2.2.2.2]]⟩
def qz8 (C:qz1) (v:qz4):Dt qz6:=(Dt.ret (v.1,v.2.1,v.2.2.1,v.2.2.2.1,v.2.2.2.2.1,v.2.2.2.2.2))
abbrev q24j {V Y:Type}:=@rg qz1 V Y tysT (fun C=>(orc (qz3 C))) 19
theorem qz9 C v:q24j (regO (qdk f37) 0) false (an [2,3]) qz5 qz8 qz7 C v:=rgI (by kernel_rfl)
abbrev qza:Type:=Int×Bool×Int×Int×Bool×Int×Int
def qzb (v:qza):St:=⟨[(2,.ptr 0 0),(3,.ptr 1 0),(5,i6 v.1)],[.cells [.bool v.2.1,u6 v.2.2.1,u6 v.2.2.2.1],.cells [.bool v.2.2.2.2.1,u6 v.2.2.2.2.2.1,u6 v.2.2.2.2.2.2]]⟩
def qzc (C:qz1) (v:qz6):Dt qza:=(Dt.bnd (C.1 ((v.2.1,()),(v.2.2.2.2.1,()),())) fun r1=>(Dt.ret (r1,v.1,v.2.1,v.2.2.1,v.2.2.2.1,v.2.2.2.2.1,v.2.2.2.2.2)))
theorem qzd C v:q24j (regO (qdk f37) 1) false (an [2,3,5]) qz7 qzc qzb C v:=rgI (by kernel_rfl)
abbrev qze:Type:=Int×Bool×Bool×Int×Int×Bool×Int×Int
def qzf (v:qze):St:=⟨[(2,.ptr 0 0),(3,.ptr 1 0),(5,i6 v.1),(12,.bool v.2.1)],[.cells [.bool v.2.2.1,u6 v.2.2.2.1,u6 v.2.2.2.2.1],.cells [.bool v.2.2.2.2.2.1,u6 v.2.2.2.2.2.2.1,u6 v.2.2.2.2.2.2.2]]⟩
def qzg (C:qz1) (v:qza):Dt qze:=(Dt.ret (v.1,(v.1 != (0:Int)),v.2.1,v.2.2.1,v.2.2.2.1,v.2.2.2.2.1,v.2.2.2.2.2.1,v.2.2.2.2.2.2))
theorem qzh C v:q24j (regO (qdk f37) 2) false (an [2,3,5,12]) qzb qzg qzf C v:=rgI (by kernel_rfl)
abbrev qzi:Type:=Int
def qzj (v:qzi):St:=⟨[(4,i6 v)],[]⟩
def qzk (C:qz1) (v:qze):Dt qzi:=(Dt.ret v.1)
theorem qzl C v:q24j (regO (qdk f37) 3) false [(4,.any)] qzf qzk qzj C v:=rgI (by kernel_rfl)
def qzm (C:qz1) (v:qze):Dt qzi:=(Dt.bnd (C.1 ((v.2.2.2.2.1,()),(v.2.2.2.2.2.2.2,()),())) fun r1=>(Dt.ret r1))
theorem qzn C v:q24j (regO (qdk f37) 4) false [(4,.any)] qzf qzm qzj C v:=rgI (by kernel_rfl)
def qzo (d:Nat) (x:qyx):Option qyy :=
 (qz8 (qz2 d) (x.1.1,x.1.2.1,x.1.2.2.1,x.2.1.1,x.2.1.2.1,x.2.1.2.2.1)).eval fun y0 =>
 (qzc (qz2 d) y0).eval fun y1 =>
 (qzg (qz2 d) y1).eval fun y2 =>
 bif y2.2.1 then ((qzk (qz2 d) y2).eval fun y3 =>
 some y3) else ((qzm (qz2 d) y2).eval fun y4 =>
 some y4)
theorem qzp (d:Nat):COK prog (qz0 (qzo d)):=by
 have hm:prog.follows .mixedOrders=true:=mixed
 have hT:=tys
 have hC0:OrcOK prog (orc (qz3 (qz2 d))):=qde (by
  intro S hS
  simp only [qz3,List.mem_cons,List.not_mem_nil,or_false] at hS
  subst hS;exact qyv d)
 have hC:OrcOK prog (orc (qz3 (qz2 d))):=hC0
 refine q93 (c:=qdk f37) (fn:=f37) hT (by kernel_rfl) (by kernel_rfl) (by decide) fun x r h w0 φ0 Q hend=>?_
 replace h:qzo d x=some r:=h
 unfold qzo at h
 show Run prog w0 φ0 19 (qdk f37) ⟨[(0,.agg [.bool x.1.1,.int .u64 x.1.2.1,.int .u64 x.1.2.2.1]),(1,.agg [.bool x.2.1.1,.int .u64 x.2.1.2.1,.int .u64 x.2.1.2.2.1])],[]⟩ Q
 refine q24b hm hT hC (qz9 (qz2 d) (x.1.1,x.1.2.1,x.1.2.2.1,x.2.1.1,x.2.1.2.1,x.2.1.2.2.1)) h fun y0 h=>?_
 refine q8m ?_
 refine q24b hm hT hC (qzd (qz2 d) y0) h fun y1 h=>?_
 refine q24b hm hT hC (qzh (qz2 d) y1) h fun y2 h=>?_
 refine q8q (v:=y2.2.1) (by kernel_rfl) h ?_ ?_
 ·
  intro h
  refine q24b hm hT hC (qzl (qz2 d) y2) h fun y3 h=>?_
  refine q8l (q8a ?_)
  cases h
  exact (hend _ (by kernel_rfl)).2
 ·
  intro h
  refine q8i (q88 ?_)
  refine q24b hm hT hC (qzn (qz2 d) y2) h fun y4 h=>?_
  refine q8l ?_
  cases h
  exact (hend _ (by kernel_rfl)).2
abbrev qzq:List Pk:=[.row Rii true,.row Rii true]
abbrev qzr:Type:=Dii×Dii×Unit
abbrev qzs:Type:=Int×Int
def qzt (r:qzs):LV×List Ob:=(.tup [.int .i64 r.1,.int .i64 r.2],[])
def qzu (F:qzr→Option qzs):Go.Tx.Spec:=⟨23,qzq,qzs,F,qzt⟩
abbrev qzv:Type:=(qsw→Option qsx)×(qty→Option qtz)×(qyx→Option qyy)×(qw7→Option qw8)×Unit
def qzw (d:Nat):qzv:=(qtd d,qvg d,qzo d,qws d,())
def qzx (C:qzv):List Go.Tx.Spec:=[qsz C.1,qu1 C.2.1,qz0 C.2.2.1,qwa C.2.2.2.1]
abbrev qzy:Type:=Int×Int×Int×Int
def qzz (v:qzy):St:=⟨[(0,.agg [i6 v.1,i6 v.2.1]),(1,.agg [i6 v.2.2.1,i6 v.2.2.2])],[]⟩
abbrev q100:Type:=Int×Int×Int×Int
def q101 (v:q100):St:=⟨[(2,.ptr 0 0),(3,.ptr 1 0)],[.cells [i6 v.1,i6 v.2.1],.cells [i6 v.2.2.1,i6 v.2.2.2]]⟩
def q102 (C:qzv) (v:qzy):Dt q100:=(Dt.ret (v.1,v.2.1,v.2.2.1,v.2.2.2))
abbrev q24k {V Y:Type}:=@rg qzv V Y tysT (fun C=>(orc (qzx C))) 43
theorem q103 C v:q24k (regO (qdk f23) 0) false (an [2,3]) qzz q102 q101 C v:=rgI (by kernel_rfl)
abbrev q104:Type:=Int×Int×Int×Int×Int
def q105 (v:q104):St:=⟨[(2,.ptr 0 0),(3,.ptr 1 0),(6,i6 v.1)],[.cells [i6 v.2.1,i6 v.2.2.1],.cells [i6 v.2.2.2.1,i6 v.2.2.2.2]]⟩
def q106 (C:qzv) (v:q100):Dt q104:=(Dt.bnd (C.1 ((v.1,v.2.1,()),(v.2.2.1,v.2.2.2,()),())) fun r1=>(Dt.ret (r1,v.1,v.2.1,v.2.2.1,v.2.2.2)))
theorem q107 C v:q24k (regO (qdk f23) 1) false (an [2,3,6]) q101 q106 q105 C v:=rgI (by kernel_rfl)
abbrev q108:Type:=Int×Bool×Int×Int×Int×Int
def q109 (v:q108):St:=⟨[(2,.ptr 0 0),(3,.ptr 1 0),(6,i6 v.1),(12,.bool v.2.1)],[.cells [i6 v.2.2.1,i6 v.2.2.2.1],.cells [i6 v.2.2.2.2.1,i6 v.2.2.2.2.2]]⟩
def q10a (C:qzv) (v:q104):Dt q108:=(Dt.ret (v.1,(v.1 != (0:Int)),v.2.1,v.2.2.1,v.2.2.2.1,v.2.2.2.2))
theorem q10b C v:q24k (regO (qdk f23) 2) false (an [2,3,6,12]) q105 q10a q109 C v:=rgI (by kernel_rfl)
abbrev q10c:Type:=Int×Int
def q10d (v:q10c):St:=⟨[(4,i6 v.1),(5,i6 v.2)],[]⟩
def q10e (C:qzv) (v:q108):Dt q10c:=(Dt.ret ((0:Int),v.1))
theorem q10f C v:q24k (regO (qdk f23) 3) false (an [4,5]) q109 q10e q10d C v:=rgI (by kernel_rfl)
abbrev q10g:Type:=Bool×Int×Int×Int×Int
def q10h (v:q10g):St:=⟨[(2,.ptr 0 0),(3,.ptr 1 0),(20,.bool v.1)],[.cells [i6 v.2.1,i6 v.2.2.1],.cells [i6 v.2.2.2.1,i6 v.2.2.2.2]]⟩
def q10i (C:qzv) (v:q108):Dt q10g:=(Dt.ret ((!((decide (v.2.2.1<(0:Int))) == (decide (v.2.2.2.2.1<(0:Int))))),v.2.2.1,v.2.2.2.1,v.2.2.2.2.1,v.2.2.2.2.2))
theorem q10j C v:q24k (regO (qdk f23) 4) false (an [2,3,20]) q109 q10i q10h C v:=rgI (by kernel_rfl)
def q10k (C:qzv) (v:q10g):Dt q10c:=(Dt.bnd (C.2.1 ((v.2.1,()),(v.2.2.2.1,()),())) fun r1=>(Dt.ret (r1,(0:Int))))
theorem q10l C v:q24k (regO (qdk f23) 5) false (an [4,5]) q10h q10k q10d C v:=rgI (by kernel_rfl)
abbrev q10m:Type:=Int×Int×Int
def q10n (v:q10m):St:=⟨[(2,.ptr 0 0),(7,i6 v.1)],[.cells [i6 v.2.1,i6 v.2.2]]⟩
def q10o (C:qzv) (v:q10g):Dt q10m:=(Dt.bnd (C.2.2.2.1 ((v.2.1,()),(v.2.2.2.2,()),())) fun r1=>(Dt.bnd (C.2.2.2.1 ((v.2.2.2.1,()),(v.2.2.1,()),())) fun r2=>(Dt.bnd (C.2.2.1 ((r1.1,r1.2.1,r1.2.2,()),(r2.1,r2.2.1,r2.2.2,()),())) fun r3=>(Dt.ret (r3,v.2.1,v.2.2.1)))))
theorem q10p C v:q24k (regO (qdk f23) 6) true (an [2,7]) q10h q10o q10n C v:=rgI (by kernel_rfl)
abbrev q10q:Type:=Int×Bool
def q10r (v:q10q):St:=⟨[(7,i6 v.1),(39,.bool v.2)],[]⟩
def q10s (C:qzv) (v:q10m):Dt q10q:=(Dt.ret (v.1,(decide (v.2.1<(0:Int)))))
theorem q10t C v:q24k (regO (qdk f23) 7) false (an [7,39]) q10n q10s q10r C v:=rgI (by kernel_rfl)
abbrev q10u:Type:=Int
def q10v (v:q10u):St:=⟨[(7,i6 v)],[]⟩
def q10w (C:qzv) (v:q10q):Dt q10u:=(Dt.ret (IntKind.wrap .i64 (0 - v.1)))
theorem q10x C v:q24k (regO (qdk f23) 8) false [(7,.any)] q10r q10w q10v C v:=rgI (by kernel_rfl)
def q10y (C:qzv) (v:q10u):Dt q10c:=(Dt.ret (v,(0:Int)))
theorem q10z C v:q24k (regO (qdk f23) 9) false (an [4,5]) q10v q10y q10d C v:=rgI (by kernel_rfl)
def q110  (d:Nat)  (z:Int):Option (qzs) :=
 (q10y (qzw d) z).eval fun y9 =>
 some y9
def q111 (d:Nat) (x:qzr):Option qzs :=
 (q102 (qzw d) (x.1.1,x.1.2.1,x.2.1.1,x.2.1.2.1)).eval fun y0 =>
 (q106 (qzw d) y0).eval fun y1 =>
 (q10a (qzw d) y1).eval fun y2 =>
 bif y2.2.1 then ((q10e (qzw d) y2).eval fun y3 =>
 some y3) else ((q10i (qzw d) y2).eval fun y4 =>
 bif y4.1 then ((q10k (qzw d) y4).eval fun y5 =>
 some y5) else ((q10o (qzw d) y4).eval fun y6 =>
 (q10s (qzw d) y6).eval fun y7 =>
 bif y7.2 then ((q10w (qzw d) y7).eval fun y8 =>
 q110 d  y8) else (q110 d  y7.1)))
theorem q112 (d:Nat):COK prog (qzu (q111 d)):=by
 have hm:prog.follows .mixedOrders=true:=mixed
 have hT:=tys
 have hC0:OrcOK prog (orc (qzx (qzw d))):=qde (by
  intro S hS
  simp only [qzx,List.mem_cons,List.not_mem_nil,or_false] at hS
  rcases hS with rfl | rfl | rfl | rfl
  · exact qte d
  · exact qvh d
  · exact qzp d
  · exact qwt d)
 have hC:OrcOK prog (orc (qzx (qzw d))):=hC0
 refine q93 (c:=qdk f23) (fn:=f23) hT (by kernel_rfl) (by kernel_rfl) (by decide) fun x r h w0 φ0 Q hend=>?_
 replace h:q111 d x=some r:=h
 unfold q111 at h
 show Run prog w0 φ0 43 (qdk f23) ⟨[(0,.agg [.int .i64 x.1.1,.int .i64 x.1.2.1]),(1,.agg [.int .i64 x.2.1.1,.int .i64 x.2.1.2.1])],[]⟩ Q
 refine q24b hm hT hC (q103 (qzw d) (x.1.1,x.1.2.1,x.2.1.1,x.2.1.2.1)) h fun y0 h=>?_
 refine q8m ?_
 refine q24b hm hT hC (q107 (qzw d) y0) h fun y1 h=>?_
 refine q24b hm hT hC (q10b (qzw d) y1) h fun y2 h=>?_
 refine q8q (v:=y2.2.1) (by kernel_rfl) h ?_ ?_
 ·
  intro h
  refine q24b hm hT hC (q10f (qzw d) y2) h fun y3 h=>?_
  refine q8l (q8a ?_)
  cases h
  exact (hend _ (by kernel_rfl)).2
 ·
  intro h
  refine q8i (q88 (q8m ?_))
  refine q24b hm hT hC (q10j (qzw d) y2) h fun y4 h=>?_
  refine q8q (v:=y4.1) (by kernel_rfl) h ?_ ?_
  ·
   intro h
   refine q24b hm hT hC (q10l (qzw d) y4) h fun y5 h=>?_
   refine q8l (q8a ?_)
   cases h
   exact (hend _ (by kernel_rfl)).2
  ·
   intro h
   refine q8i (q88 ?_)
   refine q24b hm hT hC (q10p (qzw d) y4) h fun y6 h=>?_
   refine q8p (r:=r) (F:=q110 d ) (S:=(fun z=>⟨[(7,i6 z)],[]⟩:Int→St)) ?_ ?_
   ·
    intro z h
    unfold q110 at h
    refine q24b hm hT hC (q10z (qzw d) z) h fun y9 h=>?_
    refine q8l ?_
    cases h
    exact (hend _ (by kernel_rfl)).2
   intro hj1
   refine q24b hm hT hC (q10t (qzw d) y6) h fun y7 h=>?_
   refine q8q (v:=y7.2) (by kernel_rfl) h ?_ ?_
   ·
    intro h
    refine q8r hm hT hC (q10x (qzw d) y7) h ?_
    intro y8 h
    exact hj1 _ h
   ·
    intro h
    refine q8i ?_
    refine qdj (s:=⟨[(7,.int .i64 y7.1)],[]⟩) [39] (by kernel_rfl) ?_
    exact hj1 _ h
end Go.Proofs.Ytbjpmdhdoggobaa

namespace Go.Tx
open Go
def q113 (x y c:Int):Option (Int×Int):=bif decide (0≤x)&&decide (x<18446744073709551616)&&decide (0≤y)&&decide (y<18446744073709551616)&&decide (0≤c)&&decide (c≤1) then some ((x+y+c) % 18446744073709551616,(x+y+c) / 18446744073709551616) else none
def q114 (x y c:Int):Option (Int×Int):=bif decide (0≤x)&&decide (x<18446744073709551616)&&decide (0≤y)&&decide (y<18446744073709551616)&&decide (0≤c)&&decide (c≤1) then some ((x - y - c) % 18446744073709551616,bif decide (x<y+c) then 1 else 0) else none
def orcI (f:FuncId) (G:Int→Int→Int→Option (Int×Int)) (C:Orc):Orc:=fun h args H =>
  bif Nat.beq h f then (match args with
    | [.int .u64 x,.int .u64 y,.int .u64 c]=>some ⟨Int×Int,G x y c,fun r=>(.tup [.int .u64 r.1,.int .u64 r.2],H)⟩
    | _=>none) else C h args H
theorem q115 {P:Program} {f:FuncId} {G:Int→Int→Int→Option (Int×Int)} (hG:∀ x y c r,G x y c=some r→∀ w,(callFunc f #[.int .u64 x,.int .u64 y,.int .u64 c]).run P w=.ok (.value (.tuple #[.int .u64 r.1,.int .u64 r.2])) w) {C:Orc} (hC:OrcOK P C):OrcOK P (orcI f G C):=by
  refine ⟨fun h args H p x hp hx=>?_⟩
  unfold orcI at hp
  rw [Bool.cond_eq_ite] at hp
  split at hp
  · rename_i he
    have he:=Nat.eq_of_beq_eq_true he
    subst he
    split at hp
    · rename_i x0 y0 c0
      injection hp with hp;subst hp
      refine .inr ⟨rfl,fun η w vs hv=>?_⟩
      obtain ⟨v0,vs',rfl,q0,hv⟩:=hv.uncons
      obtain ⟨v1,v2,rfl,q1,q2⟩:=vrs2 hv
      cases q0;cases q1;cases q2
      exact ⟨_,hG x0 y0 c0 x hx w,.tup rfl (VRs.cons (.int _ _) (VRs.cons (.int _ _) VRs.nil)).2⟩
    · cases hp
  · exact hC.call h args H p x hp hx
theorem q116 {x y c:Int} {r:Int×Int} (h:q113 x y c=some r):∃ a b d:Nat,x=a∧y=b∧c=d∧a<18446744073709551616∧b<18446744073709551616∧d≤1∧r=((((a+b+d) % 18446744073709551616:Nat):Int),(((a+b+d) / 18446744073709551616:Nat):Int)):=by
  unfold q113 at h
  rw [Bool.cond_eq_ite] at h
  split at h
  · rename_i hc
    simp only [Bool.and_eq_true,decide_eq_true_eq] at hc
    injection h with h
    refine ⟨x.toNat,y.toNat,c.toNat,by omega,by omega,by omega,by omega,by omega,by omega,?_⟩
    rw [← h]
    refine Prod.ext ?_ ?_<;>simp only<;>omega
  · cases h
theorem q117 {x y c:Int} {r:Int×Int} (h:q114 x y c=some r):∃ a b d:Nat,x=a∧y=b∧c=d∧a<18446744073709551616∧b<18446744073709551616∧d≤1∧r=((((a+18446744073709551616 - b - d) % 18446744073709551616:Nat):Int),((if a<b+d then 1 else 0:Nat):Int)):=by
  unfold q114 at h
  rw [Bool.cond_eq_ite] at h
  split at h
  · rename_i hc
    simp only [Bool.and_eq_true,decide_eq_true_eq] at hc
    injection h with h
    refine ⟨x.toNat,y.toNat,c.toNat,by omega,by omega,by omega,by omega,by omega,by omega,?_⟩
    rw [← h]
    refine Prod.ext ?_ ?_
    · simp only;omega
    · simp only [Bool.cond_eq_ite, decide_eq_true_eq]
      split<;>split<;>first | rfl | omega
  · cases h
end Go.Tx

namespace Go.Proofs.Ytbjpmdhdoggobaa
open Go Go.Tx Go.Proofs.Try
theorem q118:∀ x y c r,q113 x y c=some r→∀ w,(callFunc 66 #[.int .u64 x,.int .u64 y,.int .u64 c]).run Try.prog w=.ok (.value (.tuple #[.int .u64 r.1,.int .u64 r.2])) w:=by
  intro x y c r h w
  obtain ⟨a,b,d,rfl,rfl,rfl,ha,hb,hd,rfl⟩:=q116 h
  rw [run_callFunc_extern Try.func66 (by kernel_rfl) (by kernel_rfl) (by kernel_rfl) (e:=add64Entry) (by kernel_rfl),run_add64 a b d (by omega) (by omega) (by omega) (by omega)]
  simp only [Result.andThen]
  congr 5<;>omega
theorem q119:∀ x y c r,q114 x y c=some r→∀ w,(callFunc 42 #[.int .u64 x,.int .u64 y,.int .u64 c]).run Try.prog w=.ok (.value (.tuple #[.int .u64 r.1,.int .u64 r.2])) w:=by
  intro x y c r h w
  obtain ⟨a,b,d,rfl,rfl,rfl,ha,hb,hd,rfl⟩:=q117 h
  rw [run_callFunc_extern Try.func42 (by kernel_rfl) (by kernel_rfl) (by kernel_rfl) (e:=sub64Entry) (by kernel_rfl),run_sub64 a b d hd]
  rfl
end Go.Proofs.Ytbjpmdhdoggobaa

namespace Go.Proofs.Ytbjpmdhdoggobaa
open Go Go.Tx Go.Proofs.Try
set_option maxRecDepth 100000
set_option maxHeartbeats 0
abbrev q11a:List Pk:=[.row Ru false]
abbrev q11b:Type:=Du×Unit
abbrev q11c:Type:=Int
def q11d (r:q11c):LV×List Ob:=(.int .i64 r,[])
def q11e (F:q11b→Option q11c):Go.Tx.Spec:=⟨60,q11a,q11c,F,q11d⟩
abbrev q11f:Type:=Unit
def q11g (_d:Nat):q11f:=()
def q11h (C:q11f):List Go.Tx.Spec:=[]
abbrev q11i:Type:=Int
def q11j (v:q11i):St:=⟨[(0,u6 v)],[]⟩
abbrev q11k:Type:=Int×Int
def q11l (v:q11k):St:=⟨[(0,u6 v.1),(2,i6 v.2)],[]⟩
def q11m (C:q11f) (v:q11i):Dt q11k:=(Dt.ret (v,(0:Int)))
abbrev q24l {V Y:Type}:=@rg q11f V Y tysT (fun C=>(orc (q11h C))) 25
theorem q11n C v:q24l (regO (qdk f60) 0) false (an [0,2]) q11j q11m q11l C v:=rgI (by kernel_rfl)
abbrev q11o:Type:=Int×Int×Bool
def q11p (v:q11o):St:=⟨[(0,u6 v.1),(2,i6 v.2.1),(4,.bool v.2.2)],[]⟩
def q11q (C:q11f) (v:q11k):Dt q11o:=(Dt.ret (v.1,v.2,(decide (v.1≥(4294967296:Int)))))
theorem q11r C v:q24l (regO (qdk f60) 1) false (an [0,2,4]) q11l q11q q11p C v:=rgI (by kernel_rfl)
def q11s (C:q11f) (v:q11o):Dt q11i:=(Dt.ret (shrI .u64 v.1 (32:Int)))
theorem q11t C v:q24l (regO (qdk f60) 2) false [(0,.any)] q11p q11s q11j C v:=rgI (by kernel_rfl)
def q11u (C:q11f) (v:q11i):Dt q11k:=(Dt.ret (v,(32:Int)))
theorem q11v C v:q24l (regO (qdk f60) 3) false (an [0,2]) q11j q11u q11l C v:=rgI (by kernel_rfl)
abbrev q11w:Type:=Int×Int×Bool
def q11x (v:q11w):St:=⟨[(0,u6 v.1),(2,i6 v.2.1),(8,.bool v.2.2)],[]⟩
def q11y (C:q11f) (v:q11k):Dt q11w:=(Dt.ret (v.1,v.2,(decide (v.1≥(65536:Int)))))
theorem q11z C v:q24l (regO (qdk f60) 4) false (an [0,2,8]) q11l q11y q11x C v:=rgI (by kernel_rfl)
def q120 (C:q11f) (v:q11w):Dt q11k:=(Dt.ret ((shrI .u64 v.1 (16:Int)),v.2.1))
theorem q121 C v:q24l (regO (qdk f60) 5) false (an [0,2]) q11x q120 q11l C v:=rgI (by kernel_rfl)
def q122 (C:q11f) (v:q11k):Dt q11k:=(Dt.ret (v.1,(IntKind.wrap .i64 (v.2+(16:Int)))))
theorem q123 C v:q24l (regO (qdk f60) 6) false (an [0,2]) q11l q122 q11l C v:=rgI (by kernel_rfl)
abbrev q124:Type:=Int×Int×Bool
def q125 (v:q124):St:=⟨[(0,u6 v.1),(2,i6 v.2.1),(14,.bool v.2.2)],[]⟩
def q126 (C:q11f) (v:q11k):Dt q124:=(Dt.ret (v.1,v.2,(decide (v.1≥(256:Int)))))
theorem q127 C v:q24l (regO (qdk f60) 7) false (an [0,2,14]) q11l q126 q125 C v:=rgI (by kernel_rfl)
def q128 (C:q11f) (v:q124):Dt q11k:=(Dt.ret ((shrI .u64 v.1 (8:Int)),v.2.1))
theorem q129 C v:q24l (regO (qdk f60) 8) false (an [0,2]) q125 q128 q11l C v:=rgI (by kernel_rfl)
def q12a (C:q11f) (v:q11k):Dt q11k:=(Dt.ret (v.1,(IntKind.wrap .i64 (v.2+(8:Int)))))
theorem q12b C v:q24l (regO (qdk f60) 9) false (an [0,2]) q11l q12a q11l C v:=rgI (by kernel_rfl)
abbrev q12c:Type:=Int
def q12d (v:q12c):St:=⟨[(2,i6 v)],[]⟩
def q12e (C:q11f) (v:q11k):Dt q12c:=(Dt.ite (strB (⟨#[0,1,2,2,3,3,3,3,4,4,4,4,4,4,4,4,5,5,5,5,5,5,5,5,5,5,5,5,5,5,5,5,6,6,6,6,6,6,6,6,6,6,6,6,6,6,6,6,6,6,6,6,6,6,6,6,6,6,6,6,6,6,6,6,7,7,7,7,7,7,7,7,7,7,7,7,7,7,7,7,7,7,7,7,7,7,7,7,7,7,7,7,7,7,7,7,7,7,7,7,7,7,7,7,7,7,7,7,7,7,7,7,7,7,7,7,7,7,7,7,7,7,7,7,7,7,7,7,8,8,8,8,8,8,8,8,8,8,8,8,8,8,8,8,8,8,8,8,8,8,8,8,8,8,8,8,8,8,8,8,8,8,8,8,8,8,8,8,8,8,8,8,8,8,8,8,8,8,8,8,8,8,8,8,8,8,8,8,8,8,8,8,8,8,8,8,8,8,8,8,8,8,8,8,8,8,8,8,8,8,8,8,8,8,8,8,8,8,8,8,8,8,8,8,8,8,8,8,8,8,8,8,8,8,8,8,8,8,8,8,8,8,8,8,8,8,8,8,8,8,8,8,8,8,8,8]⟩:ByteArray) ((IntKind.wrap .u8 v.1))) (Dt.ret (IntKind.wrap .i64 (v.2+(IntKind.wrap .i64 (q3k (⟨#[0,1,2,2,3,3,3,3,4,4,4,4,4,4,4,4,5,5,5,5,5,5,5,5,5,5,5,5,5,5,5,5,6,6,6,6,6,6,6,6,6,6,6,6,6,6,6,6,6,6,6,6,6,6,6,6,6,6,6,6,6,6,6,6,7,7,7,7,7,7,7,7,7,7,7,7,7,7,7,7,7,7,7,7,7,7,7,7,7,7,7,7,7,7,7,7,7,7,7,7,7,7,7,7,7,7,7,7,7,7,7,7,7,7,7,7,7,7,7,7,7,7,7,7,7,7,7,7,8,8,8,8,8,8,8,8,8,8,8,8,8,8,8,8,8,8,8,8,8,8,8,8,8,8,8,8,8,8,8,8,8,8,8,8,8,8,8,8,8,8,8,8,8,8,8,8,8,8,8,8,8,8,8,8,8,8,8,8,8,8,8,8,8,8,8,8,8,8,8,8,8,8,8,8,8,8,8,8,8,8,8,8,8,8,8,8,8,8,8,8,8,8,8,8,8,8,8,8,8,8,8,8,8,8,8,8,8,8,8,8,8,8,8,8,8,8,8,8,8,8,8,8,8,8,8,8]⟩:ByteArray) ((IntKind.wrap .u8 v.1))))))) Dt.fail)
theorem q12f C v:q24l (regO (qdk f60) 10) false [(2,.any)] q11l q12e q12d C v:=rgI (by kernel_rfl)
def q12g  (d:Nat)  (z:Int×Int):Option (q11c) :=
 (q12e (q11g d) z).eval fun y10 =>
 some y10
def q12h  (d:Nat)  (z:Int×Int):Option (q11c) :=
 (q126 (q11g d) z).eval fun y7 =>
 bif y7.2.2 then ((q128 (q11g d) y7).eval fun y8 =>
 (q12a (q11g d) y8).eval fun y9 =>
 q12g d  y9) else (q12g d  (y7.1,y7.2.1))
def q12i  (d:Nat)  (z:Int×Int):Option (q11c) :=
 (q11y (q11g d) z).eval fun y4 =>
 bif y4.2.2 then ((q120 (q11g d) y4).eval fun y5 =>
 (q122 (q11g d) y5).eval fun y6 =>
 q12h d  y6) else (q12h d  (y4.1,y4.2.1))
def q12j (d:Nat) (x:q11b):Option q11c :=
 (q11m (q11g d) x.1.1).eval fun y0 =>
 (q11q (q11g d) y0).eval fun y1 =>
 bif y1.2.2 then ((q11s (q11g d) y1).eval fun y2 =>
 (q11u (q11g d) y2).eval fun y3 =>
 q12i d  y3) else (q12i d  (y1.1,y1.2.1))
theorem q12k (d:Nat):COK prog (q11e (q12j d)):=by
 have hm:prog.follows .mixedOrders=true:=mixed
 have hT:=tys
 have hC0:OrcOK prog (orc (q11h (q11g d))):=qde (by
  intro S hS
  simp only [q11h,List.mem_cons,List.not_mem_nil,or_false] at hS
  all_goals first | cases hS | exact hS.elim)
 have hC:OrcOK prog (orc (q11h (q11g d))):=hC0
 refine q93 (c:=qdk f60) (fn:=f60) hT (by kernel_rfl) (by kernel_rfl) (by decide) fun x r h w0 φ0 Q hend=>?_
 replace h:q12j d x=some r:=h
 unfold q12j at h
 show Run prog w0 φ0 25 (qdk f60) ⟨[(0,.int .u64 x.1.1)],[]⟩ Q
 refine q24b hm hT hC (q11n (q11g d) x.1.1) h fun y0 h=>?_
 refine q8p (r:=r) (F:=q12i d ) (S:=(fun z=>⟨[(0,u6 z.1),(2,i6 z.2)],[]⟩:Int×Int→St)) ?_ ?_
 ·
  intro z h
  unfold q12i at h
  refine q8p (r:=r) (F:=q12h d ) (S:=(fun z=>⟨[(0,u6 z.1),(2,i6 z.2)],[]⟩:Int×Int→St)) ?_ ?_
  ·
   intro z h
   unfold q12h at h
   refine q8p (r:=r) (F:=q12g d ) (S:=(fun z=>⟨[(0,u6 z.1),(2,i6 z.2)],[]⟩:Int×Int→St)) ?_ ?_
   ·
    intro z h
    unfold q12g at h
    refine q24b hm hT hC (q12f (q11g d) z) h fun y10 h=>?_
    refine q8l ?_
    cases h
    exact (hend _ (by kernel_rfl)).2
   intro hj3
   refine q24b hm hT hC (q127 (q11g d) z) h fun y7 h=>?_
   refine q8q (v:=y7.2.2) (by kernel_rfl) h ?_ ?_
   ·
    intro h
    refine q24b hm hT hC (q129 (q11g d) y7) h fun y8 h=>?_
    refine q8r hm hT hC (q12b (q11g d) y8) h ?_
    intro y9 h
    exact hj3 _ h
   ·
    intro h
    refine q8i ?_
    refine qdj (s:=⟨[(0,.int .u64 y7.1),(2,.int .i64 y7.2.1)],[]⟩) [14] (by kernel_rfl) ?_
    exact hj3 _ h
  intro hj2
  refine q24b hm hT hC (q11z (q11g d) z) h fun y4 h=>?_
  refine q8q (v:=y4.2.2) (by kernel_rfl) h ?_ ?_
  ·
   intro h
   refine q24b hm hT hC (q121 (q11g d) y4) h fun y5 h=>?_
   refine q8r hm hT hC (q123 (q11g d) y5) h ?_
   intro y6 h
   exact hj2 _ h
  ·
   intro h
   refine q8i ?_
   refine qdj (s:=⟨[(0,.int .u64 y4.1),(2,.int .i64 y4.2.1)],[]⟩) [8] (by kernel_rfl) ?_
   exact hj2 _ h
 intro hj1
 refine q24b hm hT hC (q11r (q11g d) y0) h fun y1 h=>?_
 refine q8q (v:=y1.2.2) (by kernel_rfl) h ?_ ?_
 ·
  intro h
  refine q24b hm hT hC (q11t (q11g d) y1) h fun y2 h=>?_
  refine q8r hm hT hC (q11v (q11g d) y2) h ?_
  intro y3 h
  exact hj1 _ h
 ·
  intro h
  refine q8i ?_
  refine qdj (s:=⟨[(0,.int .u64 y1.1),(2,.int .i64 y1.2.1)],[]⟩) [4] (by kernel_rfl) ?_
  exact hj1 _ h
abbrev q12l:List Pk:=[.row Ru false]
abbrev q12m:Type:=Du×Unit
abbrev q12n:Type:=Int
def q12o (r:q12n):LV×List Ob:=(.int .i64 r,[])
def q12p (F:q12m→Option q12n):Go.Tx.Spec:=⟨67,q12l,q12n,F,q12o⟩
abbrev q12q:Type:=(q11b→Option q11c)×Unit
def q12r (d:Nat):q12q:=(q12j d,())
def q12s (C:q12q):List Go.Tx.Spec:=[q11e C.1]
abbrev q12t:Type:=Int
def q12u (v:q12t):St:=⟨[(0,u6 v)],[]⟩
def q12v (C:q12q) (v:q12t):Dt q12t:=(Dt.ret v)
abbrev q24m {V Y:Type}:=@rg q12q V Y tysT (fun C=>(orc (q12s C))) 6
theorem q12w C v:q24m (regO (qdk f67) 0) false [(0,.any)] q12u q12v q12u C v:=rgI (by kernel_rfl)
abbrev q12x:Type:=Int
def q12y (v:q12x):St:=⟨[(2,i6 v)],[]⟩
def q12z (C:q12q) (v:q12t):Dt q12x:=(Dt.bnd (C.1 ((v,()),())) fun r1=>(Dt.ret (IntKind.wrap .i64 ((64:Int) - r1))))
theorem q130 C v:q24m (regO (qdk f67) 1) false [(2,.any)] q12u q12z q12y C v:=rgI (by kernel_rfl)
def q131 (d:Nat) (x:q12m):Option q12n :=
 (q12v (q12r d) x.1.1).eval fun y0 =>
 (q12z (q12r d) y0).eval fun y1 =>
 some y1
theorem q132 (d:Nat):COK prog (q12p (q131 d)):=by
 have hm:prog.follows .mixedOrders=true:=mixed
 have hT:=tys
 have hC0:OrcOK prog (orc (q12s (q12r d))):=qde (by
  intro S hS
  simp only [q12s,List.mem_cons,List.not_mem_nil,or_false] at hS
  subst hS;exact q12k d)
 have hC:OrcOK prog (orc (q12s (q12r d))):=hC0
 refine q93 (c:=qdk f67) (fn:=f67) hT (by kernel_rfl) (by kernel_rfl) (by decide) fun x r h w0 φ0 Q hend=>?_
 replace h:q131 d x=some r:=h
 unfold q131 at h
 show Run prog w0 φ0 6 (qdk f67) ⟨[(0,.int .u64 x.1.1)],[]⟩ Q
 refine q24b hm hT hC (q12w (q12r d) x.1.1) h fun y0 h=>?_
 refine q24b hm hT hC (q130 (q12r d) y0) h fun y1 h=>?_
 refine q8l ?_
 cases h
 exact (hend _ (by kernel_rfl)).2
abbrev q133:List Pk:=[.row Ru false,.row Ru false,.row Ru false]
abbrev q134:Type:=Du×Du×Du×Unit
abbrev q135:Type:=Int×Int
def q136 (r:q135):LV×List Ob:=(.tup [.int .u64 r.1,.int .u64 r.2],[])
def q137 (F:q134→Option q135):Go.Tx.Spec:=⟨44,q133,q135,F,q136⟩
abbrev q138:Type:=(q12m→Option q12n)×Unit
def q139 (d:Nat):q138:=(q131 d,())
def q13a (C:q138):List Go.Tx.Spec:=[q12p C.1]
abbrev q13b:Type:=Int×Int×Int
def q13c (v:q13b):St:=⟨[(0,u6 v.1),(1,u6 v.2.1),(2,u6 v.2.2)],[]⟩
def q13d (C:q138) (v:q13b):Dt q13b:=(Dt.ret (v.1,v.2.1,v.2.2))
abbrev q24n {V Y:Type}:=@rg q138 V Y tysT (fun C=>(orc (q13a C))) 135
theorem q13e C v:q24n (regO (qdk f44) 0) false (an [0,1,2]) q13c q13d q13c C v:=rgI (by kernel_rfl)
abbrev q13f:Type:=Int×Int×Int×Bool
def q13g (v:q13f):St:=⟨[(0,u6 v.1),(1,u6 v.2.1),(2,u6 v.2.2.1),(20,.bool v.2.2.2)],[]⟩
def q13h (C:q138) (v:q13b):Dt q13f:=(Dt.ret (v.1,v.2.1,v.2.2,(v.2.2 == (0:Int))))
theorem q13i C v:q24n (regO (qdk f44) 1) false (an [0,1,2,20]) q13c q13h q13g C v:=rgI (by kernel_rfl)
abbrev q13j:Type:=Int×Int×Int×Bool
def q13k (v:q13j):St:=⟨[(0,u6 v.1),(1,u6 v.2.1),(2,u6 v.2.2.1),(24,.bool v.2.2.2)],[]⟩
def q13l (C:q138) (v:q13f):Dt q13j:=(Dt.ret (v.1,v.2.1,v.2.2.1,(decide (v.2.2.1≤v.1))))
theorem q13m C v:q24n (regO (qdk f44) 3) false (an [0,1,2,24]) q13g q13l q13k C v:=rgI (by kernel_rfl)
abbrev q13n:Type:=Int×Int×Int×Bool
def q13o (v:q13n):St:=⟨[(0,u6 v.1),(1,u6 v.2.1),(2,u6 v.2.2.1),(27,.bool v.2.2.2)],[]⟩
def q13p (C:q138) (v:q13j):Dt q13n:=(Dt.ret (v.1,v.2.1,v.2.2.1,(v.1 == (0:Int))))
theorem q13q C v:q24n (regO (qdk f44) 5) false (an [0,1,2,27]) q13k q13p q13o C v:=rgI (by kernel_rfl)
abbrev q13r:Type:=Int×Int
def q13s (v:q13r):St:=⟨[(6,u6 v.1),(7,u6 v.2)],[]⟩
def q13t (C:q138) (v:q13n):Dt q13r:=(Dt.ite (v.2.2.1 == (0:Int)) Dt.fail (Dt.ite (v.2.2.1 == (0:Int)) Dt.fail (Dt.ret ((IntKind.wrap .u64 (Int.tdiv v.2.1 v.2.2.1)),(Int.tmod v.2.1 v.2.2.1)))))
theorem q13u C v:q24n (regO (qdk f44) 6) true (an [6,7]) q13o q13t q13s C v:=rgI (by kernel_rfl)
abbrev q13v:Type:=Int×Int×Int×Int
def q13w (v:q13v):St:=⟨[(0,u6 v.1),(1,u6 v.2.1),(2,u6 v.2.2.1),(8,u6 v.2.2.2)],[]⟩
def q13x (C:q138) (v:q13n):Dt q13v:=(Dt.bnd (C.1 ((v.2.2.1,()),())) fun r1=>(Dt.ret (v.1,v.2.1,v.2.2.1,(IntKind.wrap .u64 r1))))
theorem q13y C v:q24n (regO (qdk f44) 7) false (an [0,1,2,8]) q13o q13x q13w C v:=rgI (by kernel_rfl)
def q13z (C:q138) (v:q13v):Dt q13v:=(Dt.ite (decide (v.2.2.2<0)) Dt.fail (Dt.ret (v.1,v.2.1,(shlI .u64 v.2.2.1 v.2.2.2),v.2.2.2)))
theorem q140 C v:q24n (regO (qdk f44) 8) false (an [0,1,2,8]) q13w q13z q13w C v:=rgI (by kernel_rfl)
abbrev q141:Type:=Int×Int×Int×Int×Int
def q142 (v:q141):St:=⟨[(0,u6 v.1),(1,u6 v.2.1),(2,u6 v.2.2.1),(8,u6 v.2.2.2.1),(9,u6 v.2.2.2.2)],[]⟩
def q143 (C:q138) (v:q13v):Dt q141:=(Dt.ret (v.1,v.2.1,v.2.2.1,v.2.2.2,(shrI .u64 v.2.2.1 (32:Int))))
theorem q144 C v:q24n (regO (qdk f44) 9) false (an [0,1,2,8,9]) q13w q143 q142 C v:=rgI (by kernel_rfl)
abbrev q145:Type:=Int×Int×Int×Int×Int×Int
def q146 (v:q145):St:=⟨[(0,u6 v.1),(1,u6 v.2.1),(2,u6 v.2.2.1),(8,u6 v.2.2.2.1),(9,u6 v.2.2.2.2.1),(10,u6 v.2.2.2.2.2)],[]⟩
def q147 (C:q138) (v:q141):Dt q145:=(Dt.ret (v.1,v.2.1,v.2.2.1,v.2.2.2.1,v.2.2.2.2,(andI .u64 v.2.2.1 (4294967295:Int))))
theorem q148 C v:q24n (regO (qdk f44) 10) false (an [0,1,2,8,9,10]) q142 q147 q146 C v:=rgI (by kernel_rfl)
abbrev q149:Type:=Int×Int×Int×Int×Int×Int
def q14a (v:q149):St:=⟨[(1,u6 v.1),(2,u6 v.2.1),(8,u6 v.2.2.1),(9,u6 v.2.2.2.1),(10,u6 v.2.2.2.2.1),(11,u6 v.2.2.2.2.2)],[]⟩
def q14b (C:q138) (v:q145):Dt q149:=(Dt.ite (decide (v.2.2.2.1<0)) Dt.fail (Dt.ite (decide ((IntKind.wrap .u64 ((64:Int) - v.2.2.2.1))<0)) Dt.fail (Dt.ret (v.2.1,v.2.2.1,v.2.2.2.1,v.2.2.2.2.1,v.2.2.2.2.2,(orI .u64 (shlI .u64 v.1 v.2.2.2.1) (shrI .u64 v.2.1 (IntKind.wrap .u64 ((64:Int) - v.2.2.2.1))))))))
theorem q14c C v:q24n (regO (qdk f44) 11) false (an [1,2,8,9,10,11]) q146 q14b q14a C v:=rgI (by kernel_rfl)
abbrev q14d:Type:=Int×Int×Int×Int×Int×Int
def q14e (v:q14d):St:=⟨[(2,u6 v.1),(8,u6 v.2.1),(9,u6 v.2.2.1),(10,u6 v.2.2.2.1),(11,u6 v.2.2.2.2.1),(12,u6 v.2.2.2.2.2)],[]⟩
def q14f (C:q138) (v:q149):Dt q14d:=(Dt.ite (decide (v.2.2.1<0)) Dt.fail (Dt.ret (v.2.1,v.2.2.1,v.2.2.2.1,v.2.2.2.2.1,v.2.2.2.2.2,(shlI .u64 v.1 v.2.2.1))))
theorem q14g C v:q24n (regO (qdk f44) 12) false (an [2,8,9,10,11,12]) q14a q14f q14e C v:=rgI (by kernel_rfl)
abbrev q14h:Type:=Int×Int×Int×Int×Int×Int×Int
def q14i (v:q14h):St:=⟨[(2,u6 v.1),(8,u6 v.2.1),(9,u6 v.2.2.1),(10,u6 v.2.2.2.1),(11,u6 v.2.2.2.2.1),(12,u6 v.2.2.2.2.2.1),(13,u6 v.2.2.2.2.2.2)],[]⟩
def q14j (C:q138) (v:q14d):Dt q14h:=(Dt.ret (v.1,v.2.1,v.2.2.1,v.2.2.2.1,v.2.2.2.2.1,v.2.2.2.2.2,(shrI .u64 v.2.2.2.2.2 (32:Int))))
theorem q14k C v:q24n (regO (qdk f44) 13) false (an [2,8,9,10,11,12,13]) q14e q14j q14i C v:=rgI (by kernel_rfl)
abbrev q14l:Type:=Int×Int×Int×Int×Int×Int×Int
def q14m (v:q14l):St:=⟨[(2,u6 v.1),(8,u6 v.2.1),(9,u6 v.2.2.1),(10,u6 v.2.2.2.1),(11,u6 v.2.2.2.2.1),(13,u6 v.2.2.2.2.2.1),(14,u6 v.2.2.2.2.2.2)],[]⟩
def q14n (C:q138) (v:q14h):Dt q14l:=(Dt.ret (v.1,v.2.1,v.2.2.1,v.2.2.2.1,v.2.2.2.2.1,v.2.2.2.2.2.2,(andI .u64 v.2.2.2.2.2.1 (4294967295:Int))))
theorem q14o C v:q24n (regO (qdk f44) 14) false (an [2,8,9,10,11,13,14]) q14i q14n q14m C v:=rgI (by kernel_rfl)
abbrev q14p:Type:=Int×Int×Int×Int×Int×Int×Int×Int
def q14q (v:q14p):St:=⟨[(2,u6 v.1),(8,u6 v.2.1),(9,u6 v.2.2.1),(10,u6 v.2.2.2.1),(11,u6 v.2.2.2.2.1),(13,u6 v.2.2.2.2.2.1),(14,u6 v.2.2.2.2.2.2.1),(15,u6 v.2.2.2.2.2.2.2)],[]⟩
def q14r (C:q138) (v:q14l):Dt q14p:=(Dt.ite (v.2.2.1 == (0:Int)) Dt.fail (Dt.ret (v.1,v.2.1,v.2.2.1,v.2.2.2.1,v.2.2.2.2.1,v.2.2.2.2.2.1,v.2.2.2.2.2.2,(IntKind.wrap .u64 (Int.tdiv v.2.2.2.2.1 v.2.2.1)))))
theorem q14s C v:q24n (regO (qdk f44) 15) false (an [2,8,9,10,11,13,14,15]) q14m q14r q14q C v:=rgI (by kernel_rfl)
abbrev q14t:Type:=Int×Int×Int×Int×Int×Int×Int×Int×Int
def q14u (v:q14t):St:=⟨[(2,u6 v.1),(8,u6 v.2.1),(9,u6 v.2.2.1),(10,u6 v.2.2.2.1),(11,u6 v.2.2.2.2.1),(13,u6 v.2.2.2.2.2.1),(14,u6 v.2.2.2.2.2.2.1),(15,u6 v.2.2.2.2.2.2.2.1),(16,u6 v.2.2.2.2.2.2.2.2)],[]⟩
def q14v (C:q138) (v:q14p):Dt q14t:=(Dt.ret (v.1,v.2.1,v.2.2.1,v.2.2.2.1,v.2.2.2.2.1,v.2.2.2.2.2.1,v.2.2.2.2.2.2.1,v.2.2.2.2.2.2.2,(IntKind.wrap .u64 (v.2.2.2.2.1 - (IntKind.wrap .u64 (v.2.2.2.2.2.2.2*v.2.2.1))))))
theorem q14w C v:q24n (regO (qdk f44) 16) false (an [2,8,9,10,11,13,14,15,16]) q14q q14v q14u C v:=rgI (by kernel_rfl)
abbrev q14x:Type:=Int×Int×Int×Int×Int×Int×Int×Int×Int×Bool
def q14y (v:q14x):St:=⟨[(2,u6 v.1),(8,u6 v.2.1),(9,u6 v.2.2.1),(10,u6 v.2.2.2.1),(11,u6 v.2.2.2.2.1),(13,u6 v.2.2.2.2.2.1),(14,u6 v.2.2.2.2.2.2.1),(15,u6 v.2.2.2.2.2.2.2.1),(16,u6 v.2.2.2.2.2.2.2.2.1),(78,.bool v.2.2.2.2.2.2.2.2.2)],[]⟩
def q14z (C:q138) (v:q14t):Dt q14x:=(Dt.ite (decide (v.2.2.2.2.2.2.2.1≥(4294967296:Int))) (Dt.ret (v.1,v.2.1,v.2.2.1,v.2.2.2.1,v.2.2.2.2.1,v.2.2.2.2.2.1,v.2.2.2.2.2.2.1,v.2.2.2.2.2.2.2.1,v.2.2.2.2.2.2.2.2,true)) (Dt.ret (v.1,v.2.1,v.2.2.1,v.2.2.2.1,v.2.2.2.2.1,v.2.2.2.2.2.1,v.2.2.2.2.2.2.1,v.2.2.2.2.2.2.2.1,v.2.2.2.2.2.2.2.2,(decide ((IntKind.wrap .u64 (v.2.2.2.2.2.2.2.1*v.2.2.2.1)) > (IntKind.wrap .u64 ((IntKind.wrap .u64 ((4294967296:Int)*v.2.2.2.2.2.2.2.2))+v.2.2.2.2.2.1)))))))
theorem q150 C v:q24n (regO (qdk f44) 17) false (an [2,8,9,10,11,13,14,15,16,78]) q14u q14z q14y C v:=rgI (by kernel_rfl)
def q151 (C:q138) (v:q14x):Dt q14t:=(Dt.ret (v.1,v.2.1,v.2.2.1,v.2.2.2.1,v.2.2.2.2.1,v.2.2.2.2.2.1,v.2.2.2.2.2.2.1,(IntKind.wrap .u64 (v.2.2.2.2.2.2.2.1 - (1:Int))),v.2.2.2.2.2.2.2.2.1))
theorem q152 C v:q24n (regO (qdk f44) 18) false (an [2,8,9,10,11,13,14,15,16]) q14y q151 q14u C v:=rgI (by kernel_rfl)
def q153 (C:q138) (v:q14t):Dt q14t:=(Dt.ret (v.1,v.2.1,v.2.2.1,v.2.2.2.1,v.2.2.2.2.1,v.2.2.2.2.2.1,v.2.2.2.2.2.2.1,v.2.2.2.2.2.2.2.1,(IntKind.wrap .u64 (v.2.2.2.2.2.2.2.2+v.2.2.1))))
theorem q154 C v:q24n (regO (qdk f44) 19) false (an [2,8,9,10,11,13,14,15,16]) q14u q153 q14u C v:=rgI (by kernel_rfl)
abbrev q155:Type:=Int×Int×Int×Int×Int×Int×Int×Int×Int×Bool
def q156 (v:q155):St:=⟨[(2,u6 v.1),(8,u6 v.2.1),(9,u6 v.2.2.1),(10,u6 v.2.2.2.1),(11,u6 v.2.2.2.2.1),(13,u6 v.2.2.2.2.2.1),(14,u6 v.2.2.2.2.2.2.1),(15,u6 v.2.2.2.2.2.2.2.1),(16,u6 v.2.2.2.2.2.2.2.2.1),(85,.bool v.2.2.2.2.2.2.2.2.2)],[]⟩
def q157 (C:q138) (v:q14t):Dt q155:=(Dt.ret (v.1,v.2.1,v.2.2.1,v.2.2.2.1,v.2.2.2.2.1,v.2.2.2.2.2.1,v.2.2.2.2.2.2.1,v.2.2.2.2.2.2.2.1,v.2.2.2.2.2.2.2.2,(decide (v.2.2.2.2.2.2.2.2≥(4294967296:Int)))))
theorem q158 C v:q24n (regO (qdk f44) 20) false (an [2,8,9,10,11,13,14,15,16,85]) q14u q157 q156 C v:=rgI (by kernel_rfl)
abbrev q159:Type:=Int×Int×Int×Int×Int×Int×Int
def q15a (v:q159):St:=⟨[(2,u6 v.1),(8,u6 v.2.1),(9,u6 v.2.2.1),(10,u6 v.2.2.2.1),(14,u6 v.2.2.2.2.1),(15,u6 v.2.2.2.2.2.1),(17,u6 v.2.2.2.2.2.2)],[]⟩
def q15b (C:q138) (v:q14t):Dt q159:=(Dt.ret (v.1,v.2.1,v.2.2.1,v.2.2.2.1,v.2.2.2.2.2.2.1,v.2.2.2.2.2.2.2.1,(IntKind.wrap .u64 ((IntKind.wrap .u64 ((IntKind.wrap .u64 (v.2.2.2.2.1*(4294967296:Int)))+v.2.2.2.2.2.1)) - (IntKind.wrap .u64 (v.2.2.2.2.2.2.2.1*v.1))))))
theorem q15c C v:q24n (regO (qdk f44) 21) false (an [2,8,9,10,14,15,17]) q14u q15b q15a C v:=rgI (by kernel_rfl)
abbrev q15d:Type:=Int×Int×Int×Int×Int×Int×Int×Int
def q15e (v:q15d):St:=⟨[(2,u6 v.1),(8,u6 v.2.1),(9,u6 v.2.2.1),(10,u6 v.2.2.2.1),(14,u6 v.2.2.2.2.1),(15,u6 v.2.2.2.2.2.1),(17,u6 v.2.2.2.2.2.2.1),(18,u6 v.2.2.2.2.2.2.2)],[]⟩
def q15f (C:q138) (v:q159):Dt q15d:=(Dt.ite (v.2.2.1 == (0:Int)) Dt.fail (Dt.ret (v.1,v.2.1,v.2.2.1,v.2.2.2.1,v.2.2.2.2.1,v.2.2.2.2.2.1,v.2.2.2.2.2.2,(IntKind.wrap .u64 (Int.tdiv v.2.2.2.2.2.2 v.2.2.1)))))
theorem q15g C v:q24n (regO (qdk f44) 22) false (an [2,8,9,10,14,15,17,18]) q15a q15f q15e C v:=rgI (by kernel_rfl)
abbrev q15h:Type:=Int×Int×Int×Int×Int×Int×Int×Int×Int
def q15i (v:q15h):St:=⟨[(2,u6 v.1),(8,u6 v.2.1),(9,u6 v.2.2.1),(10,u6 v.2.2.2.1),(14,u6 v.2.2.2.2.1),(15,u6 v.2.2.2.2.2.1),(16,u6 v.2.2.2.2.2.2.1),(17,u6 v.2.2.2.2.2.2.2.1),(18,u6 v.2.2.2.2.2.2.2.2)],[]⟩
def q15j (C:q138) (v:q15d):Dt q15h:=(Dt.ret (v.1,v.2.1,v.2.2.1,v.2.2.2.1,v.2.2.2.2.1,v.2.2.2.2.2.1,(IntKind.wrap .u64 (v.2.2.2.2.2.2.1 - (IntKind.wrap .u64 (v.2.2.2.2.2.2.2*v.2.2.1)))),v.2.2.2.2.2.2.1,v.2.2.2.2.2.2.2))
theorem q15k C v:q24n (regO (qdk f44) 23) false (an [2,8,9,10,14,15,16,17,18]) q15e q15j q15i C v:=rgI (by kernel_rfl)
abbrev q15l:Type:=Int×Int×Int×Int×Int×Int×Int×Int×Int×Bool
def q15m (v:q15l):St:=⟨[(2,u6 v.1),(8,u6 v.2.1),(9,u6 v.2.2.1),(10,u6 v.2.2.2.1),(14,u6 v.2.2.2.2.1),(15,u6 v.2.2.2.2.2.1),(16,u6 v.2.2.2.2.2.2.1),(17,u6 v.2.2.2.2.2.2.2.1),(18,u6 v.2.2.2.2.2.2.2.2.1),(113,.bool v.2.2.2.2.2.2.2.2.2)],[]⟩
def q15n (C:q138) (v:q15h):Dt q15l:=(Dt.ite (decide (v.2.2.2.2.2.2.2.2≥(4294967296:Int))) (Dt.ret (v.1,v.2.1,v.2.2.1,v.2.2.2.1,v.2.2.2.2.1,v.2.2.2.2.2.1,v.2.2.2.2.2.2.1,v.2.2.2.2.2.2.2.1,v.2.2.2.2.2.2.2.2,true)) (Dt.ret (v.1,v.2.1,v.2.2.1,v.2.2.2.1,v.2.2.2.2.1,v.2.2.2.2.2.1,v.2.2.2.2.2.2.1,v.2.2.2.2.2.2.2.1,v.2.2.2.2.2.2.2.2,(decide ((IntKind.wrap .u64 (v.2.2.2.2.2.2.2.2*v.2.2.2.1)) > (IntKind.wrap .u64 ((IntKind.wrap .u64 ((4294967296:Int)*v.2.2.2.2.2.2.1))+v.2.2.2.2.1)))))))
theorem q15o C v:q24n (regO (qdk f44) 24) false (an [2,8,9,10,14,15,16,17,18,113]) q15i q15n q15m C v:=rgI (by kernel_rfl)
def q15p (C:q138) (v:q15l):Dt q15h:=(Dt.ret (v.1,v.2.1,v.2.2.1,v.2.2.2.1,v.2.2.2.2.1,v.2.2.2.2.2.1,v.2.2.2.2.2.2.1,v.2.2.2.2.2.2.2.1,(IntKind.wrap .u64 (v.2.2.2.2.2.2.2.2.1 - (1:Int)))))
theorem q15q C v:q24n (regO (qdk f44) 25) false (an [2,8,9,10,14,15,16,17,18]) q15m q15p q15i C v:=rgI (by kernel_rfl)
def q15r (C:q138) (v:q15h):Dt q15h:=(Dt.ret (v.1,v.2.1,v.2.2.1,v.2.2.2.1,v.2.2.2.2.1,v.2.2.2.2.2.1,(IntKind.wrap .u64 (v.2.2.2.2.2.2.1+v.2.2.1)),v.2.2.2.2.2.2.2.1,v.2.2.2.2.2.2.2.2))
theorem q15s C v:q24n (regO (qdk f44) 26) false (an [2,8,9,10,14,15,16,17,18]) q15i q15r q15i C v:=rgI (by kernel_rfl)
abbrev q15t:Type:=Int×Int×Int×Int×Int×Int×Int×Int×Int×Bool
def q15u (v:q15t):St:=⟨[(2,u6 v.1),(8,u6 v.2.1),(9,u6 v.2.2.1),(10,u6 v.2.2.2.1),(14,u6 v.2.2.2.2.1),(15,u6 v.2.2.2.2.2.1),(16,u6 v.2.2.2.2.2.2.1),(17,u6 v.2.2.2.2.2.2.2.1),(18,u6 v.2.2.2.2.2.2.2.2.1),(120,.bool v.2.2.2.2.2.2.2.2.2)],[]⟩
def q15v (C:q138) (v:q15h):Dt q15t:=(Dt.ret (v.1,v.2.1,v.2.2.1,v.2.2.2.1,v.2.2.2.2.1,v.2.2.2.2.2.1,v.2.2.2.2.2.2.1,v.2.2.2.2.2.2.2.1,v.2.2.2.2.2.2.2.2,(decide (v.2.2.2.2.2.2.1≥(4294967296:Int)))))
theorem q15w C v:q24n (regO (qdk f44) 27) false (an [2,8,9,10,14,15,16,17,18,120]) q15i q15v q15u C v:=rgI (by kernel_rfl)
def q15x (C:q138) (v:q15h):Dt q13r:=(Dt.ite (decide (v.2.1<0)) Dt.fail (Dt.ret ((IntKind.wrap .u64 ((IntKind.wrap .u64 (v.2.2.2.2.2.1*(4294967296:Int)))+v.2.2.2.2.2.2.2.2)),(shrI .u64 (IntKind.wrap .u64 ((IntKind.wrap .u64 ((IntKind.wrap .u64 (v.2.2.2.2.2.2.2.1*(4294967296:Int)))+v.2.2.2.2.1)) - (IntKind.wrap .u64 (v.2.2.2.2.2.2.2.2*v.1)))) v.2.1))))
theorem q15y C v:q24n (regO (qdk f44) 28) false (an [6,7]) q15i q15x q13s C v:=rgI (by kernel_rfl)
def q15z  (d:Nat)  (z:Int×Int×Int×Int×Int×Int×Int×Int×Int):Option (q135) :=
 (q15x (q139 d) z).eval fun y28 =>
 some y28
def q160 (d:Nat) (self6:(Int×Int×Int×Int×Int×Int×Int×Int×Int)→Option q135) (x6:Int×Int×Int×Int×Int×Int×Int×Int×Int):Option q135 :=
 (q15n (q139 d) x6).eval fun y24 =>
 bif y24.2.2.2.2.2.2.2.2.2 then ((q15p (q139 d) y24).eval fun y25 =>
 (q15r (q139 d) y25).eval fun y26 =>
 (q15v (q139 d) y26).eval fun y27 =>
 bif y27.2.2.2.2.2.2.2.2.2 then (q15z d  (y27.1,y27.2.1,y27.2.2.1,y27.2.2.2.1,y27.2.2.2.2.1,y27.2.2.2.2.2.1,y27.2.2.2.2.2.2.1,y27.2.2.2.2.2.2.2.1,y27.2.2.2.2.2.2.2.2.1)) else (self6 (y27.1,y27.2.1,y27.2.2.1,y27.2.2.2.1,y27.2.2.2.2.1,y27.2.2.2.2.2.1,y27.2.2.2.2.2.2.1,y27.2.2.2.2.2.2.2.1,y27.2.2.2.2.2.2.2.2.1))) else (q15z d  (y24.1,y24.2.1,y24.2.2.1,y24.2.2.2.1,y24.2.2.2.2.1,y24.2.2.2.2.2.1,y24.2.2.2.2.2.2.1,y24.2.2.2.2.2.2.2.1,y24.2.2.2.2.2.2.2.2.1))
def q161  (d:Nat)  (z:Int×Int×Int×Int×Int×Int×Int×Int×Int):Option (q135) :=
 (q15b (q139 d) z).eval fun y21 =>
 (q15f (q139 d) y21).eval fun y22 =>
 (q15j (q139 d) y22).eval fun y23 =>
 iter (q160 d ) d y23
def q162 (d:Nat) (self4:(Int×Int×Int×Int×Int×Int×Int×Int×Int)→Option q135) (x4:Int×Int×Int×Int×Int×Int×Int×Int×Int):Option q135 :=
 (q14z (q139 d) x4).eval fun y17 =>
 bif y17.2.2.2.2.2.2.2.2.2 then ((q151 (q139 d) y17).eval fun y18 =>
 (q153 (q139 d) y18).eval fun y19 =>
 (q157 (q139 d) y19).eval fun y20 =>
 bif y20.2.2.2.2.2.2.2.2.2 then (q161 d  (y20.1,y20.2.1,y20.2.2.1,y20.2.2.2.1,y20.2.2.2.2.1,y20.2.2.2.2.2.1,y20.2.2.2.2.2.2.1,y20.2.2.2.2.2.2.2.1,y20.2.2.2.2.2.2.2.2.1)) else (self4 (y20.1,y20.2.1,y20.2.2.1,y20.2.2.2.1,y20.2.2.2.2.1,y20.2.2.2.2.2.1,y20.2.2.2.2.2.2.1,y20.2.2.2.2.2.2.2.1,y20.2.2.2.2.2.2.2.2.1))) else (q161 d  (y17.1,y17.2.1,y17.2.2.1,y17.2.2.2.1,y17.2.2.2.2.1,y17.2.2.2.2.2.1,y17.2.2.2.2.2.2.1,y17.2.2.2.2.2.2.2.1,y17.2.2.2.2.2.2.2.2.1))
def q163  (d:Nat)  (z:Int×Int×Int×Bool):Option (q135) :=
 (q13p (q139 d) z).eval fun y5 =>
 bif y5.2.2.2 then ((q13t (q139 d) y5).eval fun y6 =>
 some y6) else ((q13x (q139 d) y5).eval fun y7 =>
 (q13z (q139 d) y7).eval fun y8 =>
 (q143 (q139 d) y8).eval fun y9 =>
 (q147 (q139 d) y9).eval fun y10 =>
 (q14b (q139 d) y10).eval fun y11 =>
 (q14f (q139 d) y11).eval fun y12 =>
 (q14j (q139 d) y12).eval fun y13 =>
 (q14n (q139 d) y13).eval fun y14 =>
 (q14r (q139 d) y14).eval fun y15 =>
 (q14v (q139 d) y15).eval fun y16 =>
 iter (q162 d ) d y16)
def q164  (d:Nat)  (z:Int×Int×Int×Bool):Option (q135) :=
 (q13l (q139 d) z).eval fun y3 =>
 bif y3.2.2.2 then (none) else (q163 d  y3)
def q165 (d:Nat) (x:q134):Option q135 :=
 (q13d (q139 d) (x.1.1,x.2.1.1,x.2.2.1.1)).eval fun y0 =>
 (q13h (q139 d) y0).eval fun y1 =>
 bif y1.2.2.2 then (none) else (q164 d  y1)
theorem q166 (d:Nat):COK prog (q137 (q165 d)):=by
 have hm:prog.follows .mixedOrders=true:=mixed
 have hT:=tys
 have hC0:OrcOK prog (orc (q13a (q139 d))):=qde (by
  intro S hS
  simp only [q13a,List.mem_cons,List.not_mem_nil,or_false] at hS
  subst hS;exact q132 d)
 have hC:OrcOK prog (orc (q13a (q139 d))):=hC0
 refine q93 (c:=qdk f44) (fn:=f44) hT (by kernel_rfl) (by kernel_rfl) (by decide) fun x r h w0 φ0 Q hend=>?_
 replace h:q165 d x=some r:=h
 unfold q165 at h
 show Run prog w0 φ0 135 (qdk f44) ⟨[(0,.int .u64 x.1.1),(1,.int .u64 x.2.1.1),(2,.int .u64 x.2.2.1.1)],[]⟩ Q
 refine q24b hm hT hC (q13e (q139 d) (x.1.1,x.2.1.1,x.2.2.1.1)) h fun y0 h=>?_
 refine q8p (r:=r) (F:=q164 d ) (S:=(fun z=>⟨[(0,u6 z.1),(1,u6 z.2.1),(2,u6 z.2.2.1),(20,.bool z.2.2.2)],[]⟩:q13f→St)) ?_ ?_
 ·
  intro z h
  unfold q164 at h
  refine q8p (r:=r) (F:=q163 d ) (S:=(fun z=>⟨[(0,u6 z.1),(1,u6 z.2.1),(2,u6 z.2.2.1),(24,.bool z.2.2.2)],[]⟩:q13f→St)) ?_ ?_
  ·
   intro z h
   unfold q163 at h
   refine q8m ?_
   refine q24b hm hT hC (q13q (q139 d) z) h fun y5 h=>?_
   refine q8q (v:=y5.2.2.2) (by kernel_rfl) h ?_ ?_
   ·
    intro h
    refine q24b hm hT hC (q13u (q139 d) y5) h fun y6 h=>?_
    refine q8l (q8a ?_)
    cases h
    exact (hend _ (by kernel_rfl)).2
   ·
    intro h
    refine q8i (q88 ?_)
    refine q24b hm hT hC (q13y (q139 d) y5) h fun y7 h=>?_
    refine q24b hm hT hC (q140 (q139 d) y7) h fun y8 h=>?_
    refine q24b hm hT hC (q144 (q139 d) y8) h fun y9 h=>?_
    refine q24b hm hT hC (q148 (q139 d) y9) h fun y10 h=>?_
    refine q24b hm hT hC (q14c (q139 d) y10) h fun y11 h=>?_
    refine q24b hm hT hC (q14g (q139 d) y11) h fun y12 h=>?_
    refine q24b hm hT hC (q14k (q139 d) y12) h fun y13 h=>?_
    refine q24b hm hT hC (q14o (q139 d) y13) h fun y14 h=>?_
    refine q24b hm hT hC (q14s (q139 d) y14) h fun y15 h=>?_
    refine q24b hm hT hC (q14w (q139 d) y15) h fun y16 h=>?_
    refine q8p (r:=r) (F:=q161 d ) (S:=(fun z=>⟨[(2,u6 z.1),(8,u6 z.2.1),(9,u6 z.2.2.1),(10,u6 z.2.2.2.1),(11,u6 z.2.2.2.2.1),(13,u6 z.2.2.2.2.2.1),(14,u6 z.2.2.2.2.2.2.1),(15,u6 z.2.2.2.2.2.2.2.1),(16,u6 z.2.2.2.2.2.2.2.2)],[]⟩:q14t→St)) ?_ ?_
    ·
     intro z h
     unfold q161 at h
     refine q24b hm hT hC (q15c (q139 d) z) h fun y21 h=>?_
     refine q24b hm hT hC (q15g (q139 d) y21) h fun y22 h=>?_
     refine q24b hm hT hC (q15k (q139 d) y22) h fun y23 h=>?_
     refine q8p (r:=r) (F:=q15z d ) (S:=(fun z=>⟨[(2,u6 z.1),(8,u6 z.2.1),(9,u6 z.2.2.1),(10,u6 z.2.2.2.1),(14,u6 z.2.2.2.2.1),(15,u6 z.2.2.2.2.2.1),(16,u6 z.2.2.2.2.2.2.1),(17,u6 z.2.2.2.2.2.2.2.1),(18,u6 z.2.2.2.2.2.2.2.2)],[]⟩:q14t→St)) ?_ ?_
     ·
      intro z h
      unfold q15z at h
      refine q24b hm hT hC (q15y (q139 d) z) h fun y28 h=>?_
      refine q8l ?_
      cases h
      exact (hend _ (by kernel_rfl)).2
     intro hj5
     refine q8n ?_
     refine q8s (G:=iter (q160 d )) (S:=(fun x6=>⟨[(2,u6 x6.1),(8,u6 x6.2.1),(9,u6 x6.2.2.1),(10,u6 x6.2.2.2.1),(14,u6 x6.2.2.2.2.1),(15,u6 x6.2.2.2.2.2.1),(16,u6 x6.2.2.2.2.2.2.1),(17,u6 x6.2.2.2.2.2.2.2.1),(18,u6 x6.2.2.2.2.2.2.2.2)],[]⟩:q14t→St)) (fun _=>rfl) ?_ d _ h
     intro n6 x6 h K6 hn6
     replace h:q160 d  (iter (q160 d ) n6) x6=some r:=h
     generalize iter (q160 d ) n6=self6 at h hn6
     unfold q160 at h
     refine q8m ?_
     refine q24b hm hT hC (q15o (q139 d) x6) h fun y24 h=>?_
     refine q8q (v:=y24.2.2.2.2.2.2.2.2.2) (by kernel_rfl) h ?_ ?_
     ·
      intro h
      refine q8i (q88 (q8n ?_))
      refine q24b hm hT hC (q15q (q139 d) y24) h fun y25 h=>?_
      refine q24b hm hT hC (q15s (q139 d) y25) h fun y26 h=>?_
      refine q24b hm hT hC (q15w (q139 d) y26) h fun y27 h=>?_
      refine q8q (v:=y27.2.2.2.2.2.2.2.2.2) (by kernel_rfl) h ?_ ?_
      ·
       intro h
       refine q8k ?_
       refine q8e (by rfl) ?_
       refine q89 (q8d ?_)
       refine qdj (s:=⟨[(2,.int .u64 y27.1),(8,.int .u64 y27.2.1),(9,.int .u64 y27.2.2.1),(10,.int .u64 y27.2.2.2.1),(14,.int .u64 y27.2.2.2.2.1),(15,.int .u64 y27.2.2.2.2.2.1),(16,.int .u64 y27.2.2.2.2.2.2.1),(17,.int .u64 y27.2.2.2.2.2.2.2.1),(18,.int .u64 y27.2.2.2.2.2.2.2.2.1)],[]⟩) [120] (by kernel_rfl) ?_
       exact hj5 _ h
      ·
       intro h
       refine q8i (q8b ?_)
       refine qdj (s:=⟨[(2,.int .u64 y27.1),(8,.int .u64 y27.2.1),(9,.int .u64 y27.2.2.1),(10,.int .u64 y27.2.2.2.1),(14,.int .u64 y27.2.2.2.2.1),(15,.int .u64 y27.2.2.2.2.2.1),(16,.int .u64 y27.2.2.2.2.2.2.1),(17,.int .u64 y27.2.2.2.2.2.2.2.1),(18,.int .u64 y27.2.2.2.2.2.2.2.2.1)],[]⟩) [120] (by kernel_rfl) ?_
       exact hn6 _ h
     ·
      intro h
      refine q8k (q89 (q89 (q8d ?_)))
      refine qdj (s:=⟨[(2,.int .u64 y24.1),(8,.int .u64 y24.2.1),(9,.int .u64 y24.2.2.1),(10,.int .u64 y24.2.2.2.1),(14,.int .u64 y24.2.2.2.2.1),(15,.int .u64 y24.2.2.2.2.2.1),(16,.int .u64 y24.2.2.2.2.2.2.1),(17,.int .u64 y24.2.2.2.2.2.2.2.1),(18,.int .u64 y24.2.2.2.2.2.2.2.2.1)],[]⟩) [113] (by kernel_rfl) ?_
      exact hj5 _ h
    intro hj3
    refine q8n ?_
    refine q8s (G:=iter (q162 d )) (S:=(fun x4=>⟨[(2,u6 x4.1),(8,u6 x4.2.1),(9,u6 x4.2.2.1),(10,u6 x4.2.2.2.1),(11,u6 x4.2.2.2.2.1),(13,u6 x4.2.2.2.2.2.1),(14,u6 x4.2.2.2.2.2.2.1),(15,u6 x4.2.2.2.2.2.2.2.1),(16,u6 x4.2.2.2.2.2.2.2.2)],[]⟩:q14t→St)) (fun _=>rfl) ?_ d _ h
    intro n4 x4 h K4 hn4
    replace h:q162 d  (iter (q162 d ) n4) x4=some r:=h
    generalize iter (q162 d ) n4=self4 at h hn4
    unfold q162 at h
    refine q8m ?_
    refine q24b hm hT hC (q150 (q139 d) x4) h fun y17 h=>?_
    refine q8q (v:=y17.2.2.2.2.2.2.2.2.2) (by kernel_rfl) h ?_ ?_
    ·
     intro h
     refine q8i (q88 (q8n ?_))
     refine q24b hm hT hC (q152 (q139 d) y17) h fun y18 h=>?_
     refine q24b hm hT hC (q154 (q139 d) y18) h fun y19 h=>?_
     refine q24b hm hT hC (q158 (q139 d) y19) h fun y20 h=>?_
     refine q8q (v:=y20.2.2.2.2.2.2.2.2.2) (by kernel_rfl) h ?_ ?_
     ·
      intro h
      refine q8k ?_
      refine q8e (by rfl) ?_
      refine q89 (q8d ?_)
      refine qdj (s:=⟨[(2,.int .u64 y20.1),(8,.int .u64 y20.2.1),(9,.int .u64 y20.2.2.1),(10,.int .u64 y20.2.2.2.1),(11,.int .u64 y20.2.2.2.2.1),(13,.int .u64 y20.2.2.2.2.2.1),(14,.int .u64 y20.2.2.2.2.2.2.1),(15,.int .u64 y20.2.2.2.2.2.2.2.1),(16,.int .u64 y20.2.2.2.2.2.2.2.2.1)],[]⟩) [85] (by kernel_rfl) ?_
      exact hj3 _ h
     ·
      intro h
      refine q8i (q8b ?_)
      refine qdj (s:=⟨[(2,.int .u64 y20.1),(8,.int .u64 y20.2.1),(9,.int .u64 y20.2.2.1),(10,.int .u64 y20.2.2.2.1),(11,.int .u64 y20.2.2.2.2.1),(13,.int .u64 y20.2.2.2.2.2.1),(14,.int .u64 y20.2.2.2.2.2.2.1),(15,.int .u64 y20.2.2.2.2.2.2.2.1),(16,.int .u64 y20.2.2.2.2.2.2.2.2.1)],[]⟩) [85] (by kernel_rfl) ?_
      exact hn4 _ h
    ·
     intro h
     refine q8k (q89 (q89 (q8d ?_)))
     refine qdj (s:=⟨[(2,.int .u64 y17.1),(8,.int .u64 y17.2.1),(9,.int .u64 y17.2.2.1),(10,.int .u64 y17.2.2.2.1),(11,.int .u64 y17.2.2.2.2.1),(13,.int .u64 y17.2.2.2.2.2.1),(14,.int .u64 y17.2.2.2.2.2.2.1),(15,.int .u64 y17.2.2.2.2.2.2.2.1),(16,.int .u64 y17.2.2.2.2.2.2.2.2.1)],[]⟩) [78] (by kernel_rfl) ?_
     exact hj3 _ h
  intro hj2
  refine q24b hm hT hC (q13m (q139 d) z) h fun y3 h=>?_
  refine q8q (v:=y3.2.2.2) (by kernel_rfl) h ?_ ?_
  ·
   intro h
   cases h
  ·
   intro h
   refine q8i ?_
   exact hj2 _ h
 intro hj1
 refine q24b hm hT hC (q13i (q139 d) y0) h fun y1 h=>?_
 refine q8q (v:=y1.2.2.2) (by kernel_rfl) h ?_ ?_
 ·
  intro h
  cases h
 ·
  intro h
  refine q8i ?_
  exact hj1 _ h
abbrev q167:List Pk:=[.row Ru false,.row Ru false,.row Ru false]
abbrev q168:Type:=Du×Du×Du×Unit
abbrev q169:Type:=Int
def q16a (r:q169):LV×List Ob:=(.int .u64 r,[])
def q16b (F:q168→Option q169):Go.Tx.Spec:=⟨43,q167,q169,F,q16a⟩
abbrev q16c:Type:=(q134→Option q135)×Unit
def q16d (d:Nat):q16c:=(q165 d,())
def q16e (C:q16c):List Go.Tx.Spec:=[q137 C.1]
abbrev q16f:Type:=Int×Int×Int
def q16g (v:q16f):St:=⟨[(0,u6 v.1),(1,u6 v.2.1),(2,u6 v.2.2)],[]⟩
def q16h (C:q16c) (v:q16f):Dt q16f:=(Dt.ret (v.1,v.2.1,v.2.2))
abbrev q24o {V Y:Type}:=@rg q16c V Y tysT (fun C=>(orc (q16e C))) 19
theorem q16i C v:q24o (regO (qdk f43) 0) false (an [0,1,2]) q16g q16h q16g C v:=rgI (by kernel_rfl)
abbrev q16j:Type:=Int
def q16k (v:q16j):St:=⟨[(8,u6 v)],[]⟩
def q16l (C:q16c) (v:q16f):Dt q16j:=(Dt.ite (v.2.2 == (0:Int)) Dt.fail (Dt.bnd (C.1 (((Int.tmod v.1 v.2.2),()),(v.2.1,()),(v.2.2,()),())) fun r1=>(Dt.ret r1.2)))
theorem q16m C v:q24o (regO (qdk f43) 1) false [(8,.any)] q16g q16l q16k C v:=rgI (by kernel_rfl)
abbrev q16n:Type:=Int
def q16o (v:q16n):St:=⟨[(6,u6 v)],[]⟩
def q16p (C:q16c) (v:q16j):Dt q16n:=(Dt.ret v)
theorem q16q C v:q24o (regO (qdk f43) 2) false [(6,.any)] q16k q16p q16o C v:=rgI (by kernel_rfl)
def q16r (d:Nat) (x:q168):Option q169 :=
 (q16h (q16d d) (x.1.1,x.2.1.1,x.2.2.1.1)).eval fun y0 =>
 (q16l (q16d d) y0).eval fun y1 =>
 (q16p (q16d d) y1).eval fun y2 =>
 some y2
theorem q16s (d:Nat):COK prog (q16b (q16r d)):=by
 have hm:prog.follows .mixedOrders=true:=mixed
 have hT:=tys
 have hC0:OrcOK prog (orc (q16e (q16d d))):=qde (by
  intro S hS
  simp only [q16e,List.mem_cons,List.not_mem_nil,or_false] at hS
  subst hS;exact q166 d)
 have hC:OrcOK prog (orc (q16e (q16d d))):=hC0
 refine q93 (c:=qdk f43) (fn:=f43) hT (by kernel_rfl) (by kernel_rfl) (by decide) fun x r h w0 φ0 Q hend=>?_
 replace h:q16r d x=some r:=h
 unfold q16r at h
 show Run prog w0 φ0 19 (qdk f43) ⟨[(0,.int .u64 x.1.1),(1,.int .u64 x.2.1.1),(2,.int .u64 x.2.2.1.1)],[]⟩ Q
 refine q24b hm hT hC (q16i (q16d d) (x.1.1,x.2.1.1,x.2.2.1.1)) h fun y0 h=>?_
 refine q24b hm hT hC (q16m (q16d d) y0) h fun y1 h=>?_
 refine q24b hm hT hC (q16q (q16d d) y1) h fun y2 h=>?_
 refine q8l ?_
 cases h
 exact (hend _ (by kernel_rfl)).2
end Go.Proofs.Ytbjpmdhdoggobaa

namespace Go.Proofs.Ytbjpmdhdoggobaa
open Go Go.Tx Go.Pel Go.Proofs.Try
set_option maxRecDepth 100000
set_option maxHeartbeats 0
abbrev q16t:List Pk:=[.row qk7 true]
abbrev q16u:Type:=qk8×Unit
abbrev q16v:Type:=Int×Int
def q16w (r:q16v):LV×List Ob:=(.agg [.int .i64 r.1,.int .u64 r.2],[])
def q16x (F:q16u→Option q16v):Go.Tx.Spec:=⟨41,q16t,q16v,F,q16w⟩
def q16y (x:q16u):Bool:=sumB x.1.1 x.1.2.1 x.1.2.2.1 x.1.2.2.2.1
def q16z (d:Nat) (x:q16u):Option q16v:=bif q16y x then some ((x.1.1*x.1.2.1+x.1.2.2.1*x.1.2.2.2.1) / 18446744073709551616,(x.1.1*x.1.2.1+x.1.2.2.1*x.1.2.2.2.1) % 18446744073709551616) else none
theorem q171 (d:Nat):COK prog (q16x (q16z d)):=by
 refine qi6 (qi7 (fn:=f41) (by kernel_rfl) (by kernel_rfl) (by kernel_rfl)) fun x r hx w φ vs hφ hv=>?_
 have hx:q16z d x=some r:=hx
 unfold q16z at hx
 obtain ⟨hc,rfl⟩:=qjm hx
 have hv:VRs (Emb.fro φ) [.agg [.int .i64 x.1.1,.int .i64 x.1.2.1,.int .i64 x.1.2.2.1,.int .i64 x.1.2.2.2.1]] vs:=hv
 obtain ⟨v0,rfl,q0⟩:=vrs1 hv
 have r0:=qrk q0;subst r0
 unfold q16y at hc
 have h1:=hc
 refine (qrl h1 w).mono ?_
 rintro e w' ⟨rfl,y,rfl⟩
 exact qi4 hφ (VR.aggL (VRs.cons (.int _ _) (VRs.cons (.int _ _) VRs.nil))) y
end Go.Proofs.Ytbjpmdhdoggobaa

namespace Go.Proofs.Ytbjpmdhdoggobaa
open Go Go.Tx Go.Proofs.Try
set_option maxRecDepth 100000
set_option maxHeartbeats 0
abbrev q172:List Pk:=[.row Ru false,.row Ru false]
abbrev q173:Type:=Du×Du×Unit
abbrev q174:Type:=Int
def q175 (r:q174):LV×List Ob:=(.int .u64 r,[])
def q176 (F:q173→Option q174):Go.Tx.Spec:=⟨30,q172,q174,F,q175⟩
abbrev q177:Type:=Unit
def q178 (_d:Nat):q177:=()
def q179 (C:q177):List Go.Tx.Spec:=[]
abbrev q17a:Type:=Int×Int
def q17b (v:q17a):St:=⟨[(0,u6 v.1),(1,u6 v.2)],[]⟩
def q17c (C:q177) (v:q17a):Dt q17a:=(Dt.ret (v.1,v.2))
abbrev q24p {V Y:Type}:=@rg q177 V Y tysT (fun C=>(orc (q179 C))) 12
theorem q17d C v:q24p (regO (qdk f30) 0) false (an [0,1]) q17b q17c q17b C v:=rgI (by kernel_rfl)
abbrev q17e:Type:=Int×Int×Bool
def q17f (v:q17e):St:=⟨[(0,u6 v.1),(1,u6 v.2.1),(6,.bool v.2.2)],[]⟩
def q17g (C:q177) (v:q17a):Dt q17e:=(Dt.ret (v.1,v.2,(decide (v.2 > (0:Int)))))
theorem q17h C v:q24p (regO (qdk f30) 1) false (an [0,1,6]) q17b q17g q17f C v:=rgI (by kernel_rfl)
def q17i (C:q177) (v:q17e):Dt q17a:=(Dt.ite (v.2.1 == (0:Int)) Dt.fail (Dt.ret (v.2.1,(Int.tmod v.1 v.2.1))))
theorem q17j C v:q24p (regO (qdk f30) 2) true (an [0,1]) q17f q17i q17b C v:=rgI (by kernel_rfl)
abbrev q17k:Type:=Int
def q17l (v:q17k):St:=⟨[(4,u6 v)],[]⟩
def q17m (C:q177) (v:q17e):Dt q17k:=(Dt.ret v.1)
theorem q17n C v:q24p (regO (qdk f30) 3) false [(4,.any)] q17f q17m q17l C v:=rgI (by kernel_rfl)
def q17o (d:Nat) (self1:(Int×Int)→Option q174) (x1:Int×Int):Option q174 :=
 (q17g (q178 d) x1).eval fun y1 =>
 bif y1.2.2 then ((q17i (q178 d) y1).eval fun y2 =>
 self1 y2) else ((q17m (q178 d) y1).eval fun y3 =>
 some y3)
def q17p (d:Nat) (x:q173):Option q174 :=
 (q17c (q178 d) (x.1.1,x.2.1.1)).eval fun y0 =>
 iter (q17o d ) d y0
theorem q17q (d:Nat):COK prog (q176 (q17p d)):=by
 have hm:prog.follows .mixedOrders=true:=mixed
 have hT:=tys
 have hC0:OrcOK prog (orc (q179 (q178 d))):=qde (by
  intro S hS
  simp only [q179,List.mem_cons,List.not_mem_nil,or_false] at hS
  all_goals first | cases hS | exact hS.elim)
 have hC:OrcOK prog (orc (q179 (q178 d))):=hC0
 refine q93 (c:=qdk f30) (fn:=f30) hT (by kernel_rfl) (by kernel_rfl) (by decide) fun x r h w0 φ0 Q hend=>?_
 replace h:q17p d x=some r:=h
 unfold q17p at h
 show Run prog w0 φ0 12 (qdk f30) ⟨[(0,.int .u64 x.1.1),(1,.int .u64 x.2.1.1)],[]⟩ Q
 refine q24b hm hT hC (q17d (q178 d) (x.1.1,x.2.1.1)) h fun y0 h=>?_
 refine q8m (q8n ?_)
 refine q8s (G:=iter (q17o d )) (S:=(fun x1=>⟨[(0,u6 x1.1),(1,u6 x1.2)],[]⟩:Int×Int→St)) (fun _=>rfl) ?_ d _ h
 intro n1 x1 h K1 hn1
 replace h:q17o d  (iter (q17o d ) n1) x1=some r:=h
 generalize iter (q17o d ) n1=self1 at h hn1
 unfold q17o at h
 refine q8m ?_
 refine q24b hm hT hC (q17h (q178 d) x1) h fun y1 h=>?_
 refine q8q (v:=y1.2.2) (by kernel_rfl) h ?_ ?_
 ·
  intro h
  refine q8i (q88 (q8n ?_))
  refine q8r hm hT hC (q17j (q178 d) y1) h ?_
  intro y2 h
  refine q8b ?_
  exact hn1 _ h
 ·
  intro h
  refine q8k (q89 (q89 (q8d (q88 ?_))))
  refine q24b hm hT hC (q17n (q178 d) y1) h fun y3 h=>?_
  refine q8l ?_
  cases h
  exact (hend _ (by kernel_rfl)).2
abbrev q17r:List Pk:=[.row Rbuu true,.row Rbuu true]
abbrev q17s:Type:=Dbuu×Dbuu×Unit
abbrev q17t:Type:=Bool×Int×Int
def q17u (r:q17t):LV×List Ob:=(.agg [.bool r.1,.int .u64 r.2.1,.int .u64 r.2.2],[])
def q17v (F:q17s→Option q17t):Go.Tx.Spec:=⟨68,q17r,q17t,F,q17u⟩
abbrev q17w:Type:=(qyx→Option qyy)×Unit
def q17x (d:Nat):q17w:=(qzo d,())
def q17y (C:q17w):List Go.Tx.Spec:=[qz0 C.1]
abbrev q17z:Type:=Bool×Int×Int×Bool×Int×Int
def q180 (v:q17z):St:=⟨[(0,.agg [.bool v.1,u6 v.2.1,u6 v.2.2.1]),(1,.agg [.bool v.2.2.2.1,u6 v.2.2.2.2.1,u6 v.2.2.2.2.2])],[]⟩
abbrev q181:Type:=Bool×Int×Int×Bool×Int×Int×Bool×Int×Int
def q182 (v:q181):St:=⟨[(2,.ptr 0 0),(3,.ptr 1 0),(4,.ptr 2 0)],[.cells [.bool v.1,u6 v.2.1,u6 v.2.2.1],.cells [.bool v.2.2.2.1,u6 v.2.2.2.2.1,u6 v.2.2.2.2.2.1],.cells [.bool v.2.2.2.2.2.2.1,u6 v.2.2.2.2.2.2.2.1,u6 v.2.2.2.2.2.2.2.2]]⟩
def q183 (C:q17w) (v:q17z):Dt q181:=(Dt.ret (v.1,v.2.1,v.2.2.1,v.2.2.2.1,v.2.2.2.2.1,v.2.2.2.2.2,false,(0:Int),(0:Int)))
abbrev q24q {V Y:Type}:=@rg q17w V Y tysT (fun C=>(orcI 66 q113 (orcI 42 q114 (orc (q17y C))))) 68
theorem q184 C v:q24q (regO (qdk f68) 0) false (an [2,3,4]) q180 q183 q182 C v:=rgI (by kernel_rfl)
abbrev q185:Type:=Bool×Bool×Int×Int×Bool×Int×Int×Bool×Int×Int
def q186 (v:q185):St:=⟨[(2,.ptr 0 0),(3,.ptr 1 0),(4,.ptr 2 0),(17,.bool v.1)],[.cells [.bool v.2.1,u6 v.2.2.1,u6 v.2.2.2.1],.cells [.bool v.2.2.2.2.1,u6 v.2.2.2.2.2.1,u6 v.2.2.2.2.2.2.1],.cells [.bool v.2.2.2.2.2.2.2.1,u6 v.2.2.2.2.2.2.2.2.1,u6 v.2.2.2.2.2.2.2.2.2]]⟩
def q187 (C:q17w) (v:q181):Dt q185:=(Dt.ret ((v.1 == v.2.2.2.1),v.1,v.2.1,v.2.2.1,v.2.2.2.1,v.2.2.2.2.1,v.2.2.2.2.2.1,v.2.2.2.2.2.2.1,v.2.2.2.2.2.2.2.1,v.2.2.2.2.2.2.2.2))
theorem q188 C v:q24q (regO (qdk f68) 1) false (an [2,3,4,17]) q182 q187 q186 C v:=rgI (by kernel_rfl)
abbrev q189:Type:=Int×Int×Bool×Int×Int×Bool×Int×Int×Bool×Int×Int
def q18a (v:q189):St:=⟨[(2,.ptr 0 0),(3,.ptr 1 0),(4,.ptr 2 0),(5,u6 v.1),(6,u6 v.2.1)],[.cells [.bool v.2.2.1,u6 v.2.2.2.1,u6 v.2.2.2.2.1],.cells [.bool v.2.2.2.2.2.1,u6 v.2.2.2.2.2.2.1,u6 v.2.2.2.2.2.2.2.1],.cells [.bool v.2.2.2.2.2.2.2.2.1,u6 v.2.2.2.2.2.2.2.2.2.1,u6 v.2.2.2.2.2.2.2.2.2.2]]⟩
def q18b (C:q17w) (v:q185):Dt q189:=(Dt.bnd (q113 (v.2.2.2.1) (v.2.2.2.2.2.2.1) ((0:Int))) fun r1=>(Dt.ret (r1.1,r1.2,v.2.1,v.2.2.1,v.2.2.2.1,v.2.2.2.2.1,v.2.2.2.2.2.1,v.2.2.2.2.2.2.1,v.2.2.2.2.2.2.2.1,v.2.2.2.2.2.2.2.2.1,v.2.2.2.2.2.2.2.2.2)))
theorem q18c C v:q24q (regO (qdk f68) 2) false (an [2,3,4,5,6]) q186 q18b q18a C v:=rgI (by kernel_rfl)
abbrev q18d:Type:=Int×Int×Bool×Int×Int×Bool×Int×Int
def q18e (v:q18d):St:=⟨[(2,.ptr 0 0),(4,.ptr 1 0),(5,u6 v.1),(7,u6 v.2.1)],[.cells [.bool v.2.2.1,u6 v.2.2.2.1,u6 v.2.2.2.2.1],.cells [.bool v.2.2.2.2.2.1,u6 v.2.2.2.2.2.2.1,u6 v.2.2.2.2.2.2.2]]⟩
def q18f (C:q17w) (v:q189):Dt q18d:=(Dt.bnd (q113 (v.2.2.2.1) (v.2.2.2.2.2.2.1) (v.2.1)) fun r1=>(Dt.ret (v.1,r1.1,v.2.2.1,v.2.2.2.1,v.2.2.2.2.1,v.2.2.2.2.2.2.2.2.1,v.2.2.2.2.2.2.2.2.2.1,v.2.2.2.2.2.2.2.2.2.2)))
theorem q18g C v:q24q (regO (qdk f68) 3) false (an [2,4,5,7]) q18a q18f q18e C v:=rgI (by kernel_rfl)
abbrev q18h:Type:=Bool×Int×Int
def q18i (v:q18h):St:=⟨[(4,.ptr 0 0)],[.cells [.bool v.1,u6 v.2.1,u6 v.2.2]]⟩
def q18j (C:q17w) (v:q18d):Dt q18h:=(Dt.ret (v.2.2.1,v.2.1,v.1))
theorem q18k C v:q24q (regO (qdk f68) 4) false [(4,.any)] q18e q18j q18i C v:=rgI (by kernel_rfl)
abbrev q18l:Type:=Bool×Bool×Int×Int×Bool×Int×Int×Bool×Int×Int
def q18m (v:q18l):St:=⟨[(2,.ptr 0 0),(3,.ptr 1 0),(4,.ptr 2 0),(43,.bool v.1)],[.cells [.bool v.2.1,u6 v.2.2.1,u6 v.2.2.2.1],.cells [.bool v.2.2.2.2.1,u6 v.2.2.2.2.2.1,u6 v.2.2.2.2.2.2.1],.cells [.bool v.2.2.2.2.2.2.2.1,u6 v.2.2.2.2.2.2.2.2.1,u6 v.2.2.2.2.2.2.2.2.2]]⟩
def q18n (C:q17w) (v:q185):Dt q18l:=(Dt.bnd (C.1 ((v.2.1,v.2.2.1,v.2.2.2.1,()),(v.2.2.2.2.1,v.2.2.2.2.2.1,v.2.2.2.2.2.2.1,()),())) fun r1=>(Dt.ret ((decide (r1<(0:Int))),v.2.1,v.2.2.1,v.2.2.2.1,v.2.2.2.2.1,v.2.2.2.2.2.1,v.2.2.2.2.2.2.1,v.2.2.2.2.2.2.2.1,v.2.2.2.2.2.2.2.2.1,v.2.2.2.2.2.2.2.2.2)))
theorem q18o C v:q24q (regO (qdk f68) 5) false (an [2,3,4,43]) q186 q18n q18m C v:=rgI (by kernel_rfl)
def q18p (C:q17w) (v:q18l):Dt q181:=(Dt.ret (v.2.2.2.2.1,v.2.2.2.2.2.1,v.2.2.2.2.2.2.1,v.2.1,v.2.2.1,v.2.2.2.1,v.2.2.2.2.2.2.2.1,v.2.2.2.2.2.2.2.2.1,v.2.2.2.2.2.2.2.2.2))
theorem q18q C v:q24q (regO (qdk f68) 6) false (an [2,3,4]) q18m q18p q182 C v:=rgI (by kernel_rfl)
abbrev q18r:Type:=Int×Int×Bool×Int×Int×Bool×Int×Int×Bool×Int×Int
def q18s (v:q18r):St:=⟨[(2,.ptr 0 0),(3,.ptr 1 0),(4,.ptr 2 0),(9,u6 v.1),(10,u6 v.2.1)],[.cells [.bool v.2.2.1,u6 v.2.2.2.1,u6 v.2.2.2.2.1],.cells [.bool v.2.2.2.2.2.1,u6 v.2.2.2.2.2.2.1,u6 v.2.2.2.2.2.2.2.1],.cells [.bool v.2.2.2.2.2.2.2.2.1,u6 v.2.2.2.2.2.2.2.2.2.1,u6 v.2.2.2.2.2.2.2.2.2.2]]⟩
def q18t (C:q17w) (v:q181):Dt q18r:=(Dt.bnd (q114 (v.2.2.1) (v.2.2.2.2.2.1) ((0:Int))) fun r1=>(Dt.ret (r1.1,r1.2,v.1,v.2.1,v.2.2.1,v.2.2.2.1,v.2.2.2.2.1,v.2.2.2.2.2.1,v.2.2.2.2.2.2.1,v.2.2.2.2.2.2.2.1,v.2.2.2.2.2.2.2.2)))
theorem q18u C v:q24q (regO (qdk f68) 7) false (an [2,3,4,9,10]) q182 q18t q18s C v:=rgI (by kernel_rfl)
abbrev q18v:Type:=Int×Int×Bool×Int×Int×Bool×Int×Int
def q18w (v:q18v):St:=⟨[(2,.ptr 0 0),(4,.ptr 1 0),(9,u6 v.1),(11,u6 v.2.1)],[.cells [.bool v.2.2.1,u6 v.2.2.2.1,u6 v.2.2.2.2.1],.cells [.bool v.2.2.2.2.2.1,u6 v.2.2.2.2.2.2.1,u6 v.2.2.2.2.2.2.2]]⟩
def q18x (C:q17w) (v:q18r):Dt q18v:=(Dt.bnd (q114 (v.2.2.2.1) (v.2.2.2.2.2.2.1) (v.2.1)) fun r1=>(Dt.ret (v.1,r1.1,v.2.2.1,v.2.2.2.1,v.2.2.2.2.1,v.2.2.2.2.2.2.2.2.1,v.2.2.2.2.2.2.2.2.2.1,v.2.2.2.2.2.2.2.2.2.2)))
theorem q18y C v:q24q (regO (qdk f68) 8) false (an [2,4,9,11]) q18s q18x q18w C v:=rgI (by kernel_rfl)
def q18z (C:q17w) (v:q18v):Dt q18h:=(Dt.ret (v.2.2.1,v.2.1,v.1))
theorem q190 C v:q24q (regO (qdk f68) 9) false [(4,.any)] q18w q18z q18i C v:=rgI (by kernel_rfl)
def q191  (d:Nat)  (z:Bool×Int×Int×Bool×Int×Int×Bool×Int×Int):Option (q17t) :=
 (q18t (q17x d) z).eval fun y7 =>
 (q18x (q17x d) y7).eval fun y8 =>
 (q18z (q17x d) y8).eval fun y9 =>
 some y9
def q192 (d:Nat) (x:q17s):Option q17t :=
 (q183 (q17x d) (x.1.1,x.1.2.1,x.1.2.2.1,x.2.1.1,x.2.1.2.1,x.2.1.2.2.1)).eval fun y0 =>
 (q187 (q17x d) y0).eval fun y1 =>
 bif y1.1 then ((q18b (q17x d) y1).eval fun y2 =>
 (q18f (q17x d) y2).eval fun y3 =>
 (q18j (q17x d) y3).eval fun y4 =>
 some y4) else ((q18n (q17x d) y1).eval fun y5 =>
 bif y5.1 then ((q18p (q17x d) y5).eval fun y6 =>
 q191 d  y6) else (q191 d  y5.2))
theorem q193 (d:Nat):COK prog (q17v (q192 d)):=by
 have hm:prog.follows .mixedOrders=true:=mixed
 have hT:=tys
 have hC0:OrcOK prog (orc (q17y (q17x d))):=qde (by
  intro S hS
  simp only [q17y,List.mem_cons,List.not_mem_nil,or_false] at hS
  subst hS;exact qzp d)
 have hC:OrcOK prog (orcI 66 q113 (orcI 42 q114 (orc (q17y (q17x d))))):=(q115 q118 (q115 q119 hC0))
 refine q93 (c:=qdk f68) (fn:=f68) hT (by kernel_rfl) (by kernel_rfl) (by decide) fun x r h w0 φ0 Q hend=>?_
 replace h:q192 d x=some r:=h
 unfold q192 at h
 show Run prog w0 φ0 68 (qdk f68) ⟨[(0,.agg [.bool x.1.1,.int .u64 x.1.2.1,.int .u64 x.1.2.2.1]),(1,.agg [.bool x.2.1.1,.int .u64 x.2.1.2.1,.int .u64 x.2.1.2.2.1])],[]⟩ Q
 refine q24b hm hT hC (q184 (q17x d) (x.1.1,x.1.2.1,x.1.2.2.1,x.2.1.1,x.2.1.2.1,x.2.1.2.2.1)) h fun y0 h=>?_
 refine q8m ?_
 refine q24b hm hT hC (q188 (q17x d) y0) h fun y1 h=>?_
 refine q8q (v:=y1.1) (by kernel_rfl) h ?_ ?_
 ·
  intro h
  refine q24b hm hT hC (q18c (q17x d) y1) h fun y2 h=>?_
  refine q24b hm hT hC (q18g (q17x d) y2) h fun y3 h=>?_
  refine q24b hm hT hC (q18k (q17x d) y3) h fun y4 h=>?_
  refine q8l (q8a ?_)
  cases h
  exact (hend _ (by kernel_rfl)).2
 ·
  intro h
  refine q8i (q88 ?_)
  refine q8p (r:=r) (F:=q191 d ) (S:=(fun z=>⟨[(2,.ptr 0 0),(3,.ptr 1 0),(4,.ptr 2 0)],[.cells [.bool z.1,u6 z.2.1,u6 z.2.2.1],.cells [.bool z.2.2.2.1,u6 z.2.2.2.2.1,u6 z.2.2.2.2.2.1],.cells [.bool z.2.2.2.2.2.2.1,u6 z.2.2.2.2.2.2.2.1,u6 z.2.2.2.2.2.2.2.2]]⟩:q181→St)) ?_ ?_
  ·
   intro z h
   unfold q191 at h
   refine q24b hm hT hC (q18u (q17x d) z) h fun y7 h=>?_
   refine q24b hm hT hC (q18y (q17x d) y7) h fun y8 h=>?_
   refine q24b hm hT hC (q190 (q17x d) y8) h fun y9 h=>?_
   refine q8l ?_
   cases h
   exact (hend _ (by kernel_rfl)).2
  intro hj1
  refine q24b hm hT hC (q18o (q17x d) y1) h fun y5 h=>?_
  refine q8q (v:=y5.1) (by kernel_rfl) h ?_ ?_
  ·
   intro h
   refine q8r hm hT hC (q18q (q17x d) y5) h ?_
   intro y6 h
   exact hj1 _ h
  ·
   intro h
   refine q8i ?_
   refine qdj (s:=⟨[(2,.ptr 0 0),(3,.ptr 1 0),(4,.ptr 2 0)],[.cells [.bool y5.2.1,.int .u64 y5.2.2.1,.int .u64 y5.2.2.2.1],.cells [.bool y5.2.2.2.2.1,.int .u64 y5.2.2.2.2.2.1,.int .u64 y5.2.2.2.2.2.2.1],.cells [.bool y5.2.2.2.2.2.2.2.1,.int .u64 y5.2.2.2.2.2.2.2.2.1,.int .u64 y5.2.2.2.2.2.2.2.2.2]]⟩) [43] (by kernel_rfl) ?_
   exact hj1 _ h
abbrev q194:List Pk:=[.row Rbuu true,.row Ru false]
abbrev q195:Type:=Dbuu×Du×Unit
abbrev q196:Type:=Bool×Int×Int×Int
def q197 (r:q196):LV×List Ob:=(.tup [.agg [.bool r.1,.int .u64 r.2.1,.int .u64 r.2.2.1],.int .u64 r.2.2.2],[])
def q198 (F:q195→Option q196):Go.Tx.Spec:=⟨69,q194,q196,F,q197⟩
abbrev q199:Type:=(q134→Option q135)×Unit
def q19a (d:Nat):q199:=(q165 d,())
def q19b (C:q199):List Go.Tx.Spec:=[q137 C.1]
abbrev q19c:Type:=Bool×Int×Int×Int
def q19d (v:q19c):St:=⟨[(0,.agg [.bool v.1,u6 v.2.1,u6 v.2.2.1]),(1,u6 v.2.2.2)],[]⟩
abbrev q19e:Type:=Int×Bool×Int×Int×Bool×Int×Int
def q19f (v:q19e):St:=⟨[(1,u6 v.1),(2,.ptr 0 0),(4,.ptr 1 0)],[.cells [.bool v.2.1,u6 v.2.2.1,u6 v.2.2.2.1],.cells [.bool v.2.2.2.2.1,u6 v.2.2.2.2.2.1,u6 v.2.2.2.2.2.2]]⟩
def q19g (C:q199) (v:q19c):Dt q19e:=(Dt.ret (v.2.2.2,v.1,v.2.1,v.2.2.1,false,(0:Int),(0:Int)))
abbrev q24r {V Y:Type}:=@rg q199 V Y tysT (fun C=>(orc (q19b C))) 31
theorem q19h C v:q24r (regO (qdk f69) 0) false (an [1,2,4]) q19d q19g q19f C v:=rgI (by kernel_rfl)
abbrev q19i:Type:=Int×Int×Int×Bool×Int×Int×Bool×Int×Int
def q19j (v:q19i):St:=⟨[(1,u6 v.1),(2,.ptr 0 0),(4,.ptr 1 0),(6,u6 v.2.1),(7,u6 v.2.2.1)],[.cells [.bool v.2.2.2.1,u6 v.2.2.2.2.1,u6 v.2.2.2.2.2.1],.cells [.bool v.2.2.2.2.2.2.1,u6 v.2.2.2.2.2.2.2.1,u6 v.2.2.2.2.2.2.2.2]]⟩
def q19k (C:q199) (v:q19e):Dt q19i:=(Dt.ite (v.1 == (0:Int)) Dt.fail (Dt.ite (v.1 == (0:Int)) Dt.fail (Dt.ret (v.1,(IntKind.wrap .u64 (Int.tdiv v.2.2.1 v.1)),(Int.tmod v.2.2.1 v.1),v.2.1,v.2.2.1,v.2.2.2.1,v.2.2.2.2.1,v.2.2.2.2.2.1,v.2.2.2.2.2.2))))
theorem q19l C v:q24r (regO (qdk f69) 1) true (an [1,2,4,6,7]) q19f q19k q19j C v:=rgI (by kernel_rfl)
abbrev q19m:Type:=Int×Int×Int×Bool×Int×Int×Bool×Int×Int
def q19n (v:q19m):St:=⟨[(2,.ptr 0 0),(4,.ptr 1 0),(6,u6 v.1),(7,u6 v.2.1),(8,u6 v.2.2.1)],[.cells [.bool v.2.2.2.1,u6 v.2.2.2.2.1,u6 v.2.2.2.2.2.1],.cells [.bool v.2.2.2.2.2.2.1,u6 v.2.2.2.2.2.2.2.1,u6 v.2.2.2.2.2.2.2.2]]⟩
def q19o (C:q199) (v:q19i):Dt q19m:=(Dt.bnd (C.1 ((v.2.2.1,()),(v.2.2.2.2.2.1,()),(v.1,()),())) fun r1=>(Dt.ret (v.2.1,r1.2,r1.1,v.2.2.2.1,v.2.2.2.2.1,v.2.2.2.2.2.1,v.2.2.2.2.2.2.1,v.2.2.2.2.2.2.2.1,v.2.2.2.2.2.2.2.2)))
theorem q19p C v:q24r (regO (qdk f69) 2) false (an [2,4,6,7,8]) q19j q19o q19n C v:=rgI (by kernel_rfl)
abbrev q19q:Type:=Int×Bool×Int×Int
def q19r (v:q19q):St:=⟨[(4,.ptr 0 0),(5,u6 v.1)],[.cells [.bool v.2.1,u6 v.2.2.1,u6 v.2.2.2]]⟩
def q19s (C:q199) (v:q19m):Dt q19q:=(Dt.ret (v.2.1,v.2.2.2.1,v.1,v.2.2.1))
theorem q19t C v:q24r (regO (qdk f69) 3) false (an [4,5]) q19n q19s q19r C v:=rgI (by kernel_rfl)
def q19u (d:Nat) (x:q195):Option q196 :=
 (q19g (q19a d) (x.1.1,x.1.2.1,x.1.2.2.1,x.2.1.1)).eval fun y0 =>
 (q19k (q19a d) y0).eval fun y1 =>
 (q19o (q19a d) y1).eval fun y2 =>
 (q19s (q19a d) y2).eval fun y3 =>
 some (y3.2.1,y3.2.2.1,y3.2.2.2,y3.1)
theorem q19v (d:Nat):COK prog (q198 (q19u d)):=by
 have hm:prog.follows .mixedOrders=true:=mixed
 have hT:=tys
 have hC0:OrcOK prog (orc (q19b (q19a d))):=qde (by
  intro S hS
  simp only [q19b,List.mem_cons,List.not_mem_nil,or_false] at hS
  subst hS;exact q166 d)
 have hC:OrcOK prog (orc (q19b (q19a d))):=hC0
 refine q93 (c:=qdk f69) (fn:=f69) hT (by kernel_rfl) (by kernel_rfl) (by decide) fun x r h w0 φ0 Q hend=>?_
 replace h:q19u d x=some r:=h
 unfold q19u at h
 show Run prog w0 φ0 31 (qdk f69) ⟨[(0,.agg [.bool x.1.1,.int .u64 x.1.2.1,.int .u64 x.1.2.2.1]),(1,.int .u64 x.2.1.1)],[]⟩ Q
 refine q24b hm hT hC (q19h (q19a d) (x.1.1,x.1.2.1,x.1.2.2.1,x.2.1.1)) h fun y0 h=>?_
 refine q24b hm hT hC (q19l (q19a d) y0) h fun y1 h=>?_
 refine q24b hm hT hC (q19p (q19a d) y1) h fun y2 h=>?_
 refine q24b hm hT hC (q19t (q19a d) y2) h fun y3 h=>?_
 refine q8l ?_
 cases h
 exact (hend _ (by kernel_rfl)).2
abbrev q19w:List Pk:=[.row Rbuu true,.row Ru false,.row Ru false]
abbrev q19x:Type:=Dbuu×Du×Du×Unit
abbrev q19y:Type:=Int×Int×Int
def q19z (r:q19y):LV×List Ob:=(.tup [.agg [.int .i64 r.1,.int .i64 r.2.1],.int .i64 r.2.2],[])
def q1a0 (F:q19x→Option q19y):Go.Tx.Spec:=⟨70,q19w,q19y,F,q19z⟩
abbrev q1a1:Type:=Unit
def q1a2 (_d:Nat):q1a1:=()
def q1a3 (C:q1a1):List Go.Tx.Spec:=[]
abbrev q1a4:Type:=Bool×Int×Int×Int×Int
def q1a5 (v:q1a4):St:=⟨[(0,.agg [.bool v.1,u6 v.2.1,u6 v.2.2.1]),(1,u6 v.2.2.2.1),(2,u6 v.2.2.2.2)],[]⟩
abbrev q1a6:Type:=Int×Int×Bool×Int×Int×Int×Int
def q1a7 (v:q1a6):St:=⟨[(1,u6 v.1),(2,u6 v.2.1),(3,.ptr 0 0),(6,.ptr 1 0)],[.cells [.bool v.2.2.1,u6 v.2.2.2.1,u6 v.2.2.2.2.1],.cells [i6 v.2.2.2.2.2.1,i6 v.2.2.2.2.2.2]]⟩
def q1a8 (C:q1a1) (v:q1a4):Dt q1a6:=(Dt.ret (v.2.2.2.1,v.2.2.2.2,v.1,v.2.1,v.2.2.1,(0:Int),(0:Int)))
abbrev q24s {V Y:Type}:=@rg q1a1 V Y tysT (fun C=>(orc (q1a3 C))) 39
theorem q1a9 C v:q24s (regO (qdk f70) 0) false (an [1,2,3,6]) q1a5 q1a8 q1a7 C v:=rgI (by kernel_rfl)
abbrev q1aa:Type:=Int×Bool×Bool×Int×Int×Int×Int
def q1ab (v:q1aa):St:=⟨[(2,u6 v.1),(3,.ptr 0 0),(6,.ptr 1 0),(24,.bool v.2.1)],[.cells [.bool v.2.2.1,u6 v.2.2.2.1,u6 v.2.2.2.2.1],.cells [i6 v.2.2.2.2.2.1,i6 v.2.2.2.2.2.2]]⟩
def q1ac (C:q1a1) (v:q1a6):Dt q1aa:=(Dt.ite (decide (v.2.2.2.1 > (0:Int))) (Dt.ret (v.2.1,true,v.2.2.1,v.2.2.2.1,v.2.2.2.2.1,v.2.2.2.2.2.1,v.2.2.2.2.2.2)) (Dt.ite (decide (v.2.2.2.2.1 > (9223372036854775807:Int))) (Dt.ret (v.2.1,true,v.2.2.1,v.2.2.2.1,v.2.2.2.2.1,v.2.2.2.2.2.1,v.2.2.2.2.2.2)) (Dt.ite (decide (v.1 > (0:Int))) (Dt.ret (v.2.1,true,v.2.2.1,v.2.2.2.1,v.2.2.2.2.1,v.2.2.2.2.2.1,v.2.2.2.2.2.2)) (Dt.ret (v.2.1,(decide (v.2.1 > (9223372036854775807:Int))),v.2.2.1,v.2.2.2.1,v.2.2.2.2.1,v.2.2.2.2.2.1,v.2.2.2.2.2.2)))))
theorem q1ad C v:q24s (regO (qdk f70) 1) false (an [2,3,6,24]) q1a7 q1ac q1ab C v:=rgI (by kernel_rfl)
abbrev q1ae:Type:=Int×Int×Int
def q1af (v:q1ae):St:=⟨[(6,.ptr 0 0),(7,i6 v.1)],[.cells [i6 v.2.1,i6 v.2.2]]⟩
def q1ag (C:q1a1) (v:q1aa):Dt q1ae:=(Dt.ret ((16:Int),(0:Int),(0:Int)))
theorem q1ah C v:q24s (regO (qdk f70) 2) false (an [6,7]) q1ab q1ag q1af C v:=rgI (by kernel_rfl)
abbrev q1ai:Type:=Bool×Int×Int×Int×Int×Int×Int
def q1aj (v:q1ai):St:=⟨[(3,.ptr 0 0),(6,.ptr 1 0),(8,.ptr 2 0)],[.cells [.bool v.1,u6 v.2.1,u6 v.2.2.1],.cells [i6 v.2.2.2.1,i6 v.2.2.2.2.1],.cells [i6 v.2.2.2.2.2.1,i6 v.2.2.2.2.2.2]]⟩
def q1ak (C:q1a1) (v:q1aa):Dt q1ai:=(Dt.ret (v.2.2.1,v.2.2.2.1,v.2.2.2.2.1,v.2.2.2.2.2.1,v.2.2.2.2.2.2,(IntKind.wrap .i64 v.2.2.2.2.1),(IntKind.wrap .i64 v.1)))
theorem q1al C v:q24s (regO (qdk f70) 3) false (an [3,6,8]) q1ab q1ak q1aj C v:=rgI (by kernel_rfl)
abbrev q1am:Type:=Bool×Int×Int×Int×Int
def q1an (v:q1am):St:=⟨[(6,.ptr 0 0),(8,.ptr 1 0),(33,.bool v.1)],[.cells [i6 v.2.1,i6 v.2.2.1],.cells [i6 v.2.2.2.1,i6 v.2.2.2.2]]⟩
def q1ao (C:q1a1) (v:q1ai):Dt q1am:=(Dt.ret (v.1,v.2.2.2.1,v.2.2.2.2.1,v.2.2.2.2.2.1,v.2.2.2.2.2.2))
theorem q1ap C v:q24s (regO (qdk f70) 4) false (an [6,8,33]) q1aj q1ao q1an C v:=rgI (by kernel_rfl)
abbrev q1aq:Type:=Int×Int×Int×Int
def q1ar (v:q1aq):St:=⟨[(6,.ptr 0 0),(8,.ptr 1 0)],[.cells [i6 v.1,i6 v.2.1],.cells [i6 v.2.2.1,i6 v.2.2.2]]⟩
def q1as (C:q1a1) (v:q1am):Dt q1aq:=(Dt.ret (v.2.1,v.2.2.1,(IntKind.wrap .i64 (0 - v.2.2.2.1)),v.2.2.2.2))
theorem q1at C v:q24s (regO (qdk f70) 5) false (an [6,8]) q1an q1as q1ar C v:=rgI (by kernel_rfl)
def q1au (C:q1a1) (v:q1aq):Dt q1ae:=(Dt.ret ((0:Int),v.2.2.1,v.2.2.2))
theorem q1av C v:q24s (regO (qdk f70) 6) false (an [6,7]) q1ar q1au q1af C v:=rgI (by kernel_rfl)
def q1aw  (d:Nat)  (z:Int×Int×Int×Int):Option (q19y) :=
 (q1au (q1a2 d) z).eval fun y6 =>
 some (y6.2.1,y6.2.2,y6.1)
def q1ax (d:Nat) (x:q19x):Option q19y :=
 (q1a8 (q1a2 d) (x.1.1,x.1.2.1,x.1.2.2.1,x.2.1.1,x.2.2.1.1)).eval fun y0 =>
 (q1ac (q1a2 d) y0).eval fun y1 =>
 bif y1.2.1 then ((q1ag (q1a2 d) y1).eval fun y2 =>
 some (y2.2.1,y2.2.2,y2.1)) else ((q1ak (q1a2 d) y1).eval fun y3 =>
 (q1ao (q1a2 d) y3).eval fun y4 =>
 bif y4.1 then ((q1as (q1a2 d) y4).eval fun y5 =>
 q1aw d  y5) else (q1aw d  y4.2))
theorem q1ay (d:Nat):COK prog (q1a0 (q1ax d)):=by
 have hm:prog.follows .mixedOrders=true:=mixed
 have hT:=tys
 have hC0:OrcOK prog (orc (q1a3 (q1a2 d))):=qde (by
  intro S hS
  simp only [q1a3,List.mem_cons,List.not_mem_nil,or_false] at hS
  all_goals first | cases hS | exact hS.elim)
 have hC:OrcOK prog (orc (q1a3 (q1a2 d))):=hC0
 refine q93 (c:=qdk f70) (fn:=f70) hT (by kernel_rfl) (by kernel_rfl) (by decide) fun x r h w0 φ0 Q hend=>?_
 replace h:q1ax d x=some r:=h
 unfold q1ax at h
 show Run prog w0 φ0 39 (qdk f70) ⟨[(0,.agg [.bool x.1.1,.int .u64 x.1.2.1,.int .u64 x.1.2.2.1]),(1,.int .u64 x.2.1.1),(2,.int .u64 x.2.2.1.1)],[]⟩ Q
 refine q24b hm hT hC (q1a9 (q1a2 d) (x.1.1,x.1.2.1,x.1.2.2.1,x.2.1.1,x.2.2.1.1)) h fun y0 h=>?_
 refine q8m ?_
 refine q24b hm hT hC (q1ad (q1a2 d) y0) h fun y1 h=>?_
 refine q8q (v:=y1.2.1) (by kernel_rfl) h ?_ ?_
 ·
  intro h
  refine q24b hm hT hC (q1ah (q1a2 d) y1) h fun y2 h=>?_
  refine q8l (q8a ?_)
  cases h
  exact (hend _ (by kernel_rfl)).2
 ·
  intro h
  refine q8i (q88 ?_)
  refine q24b hm hT hC (q1al (q1a2 d) y1) h fun y3 h=>?_
  refine q8p (r:=r) (F:=q1aw d ) (S:=(fun z=>⟨[(6,.ptr 0 0),(8,.ptr 1 0)],[.cells [i6 z.1,i6 z.2.1],.cells [i6 z.2.2.1,i6 z.2.2.2]]⟩:q1aq→St)) ?_ ?_
  ·
   intro z h
   unfold q1aw at h
   refine q24b hm hT hC (q1av (q1a2 d) z) h fun y6 h=>?_
   refine q8l ?_
   cases h
   exact (hend _ (by kernel_rfl)).2
  intro hj1
  refine q24b hm hT hC (q1ap (q1a2 d) y3) h fun y4 h=>?_
  refine q8q (v:=y4.1) (by kernel_rfl) h ?_ ?_
  ·
   intro h
   refine q8r hm hT hC (q1at (q1a2 d) y4) h ?_
   intro y5 h
   exact hj1 _ h
  ·
   intro h
   refine q8i ?_
   refine qdj (s:=⟨[(6,.ptr 0 0),(8,.ptr 1 0)],[.cells [.int .i64 y4.2.1,.int .i64 y4.2.2.1],.cells [.int .i64 y4.2.2.2.1,.int .i64 y4.2.2.2.2]]⟩) [33] (by kernel_rfl) ?_
   exact hj1 _ h
abbrev q1az:List Pk:=[.row Rii true,.row Rii true]
abbrev q1b0:Type:=Dii×Dii×Unit
abbrev q1b1:Type:=Int×Int×Int
def q1b2 (r:q1b1):LV×List Ob:=(.tup [.agg [.int .i64 r.1,.int .i64 r.2.1],.int .i64 r.2.2],[])
def q1b3 (F:q1b0→Option q1b1):Go.Tx.Spec:=⟨45,q1az,q1b1,F,q1b2⟩
abbrev q1b4:Type:=(q173→Option q174)×(qsw→Option qsx)×(qw7→Option qw8)×(qm9→Option qma)×(q17s→Option q17t)×(q195→Option q196)×(q19x→Option q19y)×Unit
def q1b5 (d:Nat):q1b4:=(q17p d,qtd d,qws d,qme d,q192 d,q19u d,q1ax d,())
def q1b6 (C:q1b4):List Go.Tx.Spec:=[q176 C.1,qsz C.2.1,qwa C.2.2.1,qmc C.2.2.2.1,q17v C.2.2.2.2.1,q198 C.2.2.2.2.2.1,q1a0 C.2.2.2.2.2.2.1]
abbrev q1b7:Type:=Int×Int×Int×Int
def q1b8 (v:q1b7):St:=⟨[(0,.agg [i6 v.1,i6 v.2.1]),(1,.agg [i6 v.2.2.1,i6 v.2.2.2])],[]⟩
abbrev q1b9:Type:=Int×Int×Int×Int×Int×Int
def q1ba (v:q1b9):St:=⟨[(2,.ptr 0 0),(3,.ptr 1 0),(4,.ptr 2 0)],[.cells [i6 v.1,i6 v.2.1],.cells [i6 v.2.2.1,i6 v.2.2.2.1],.cells [i6 v.2.2.2.2.1,i6 v.2.2.2.2.2]]⟩
def q1bb (C:q1b4) (v:q1b7):Dt q1b9:=(Dt.ret (v.1,v.2.1,v.2.2.1,v.2.2.2,(0:Int),(0:Int)))
abbrev q24t {V Y:Type}:=@rg q1b4 V Y tysT (fun C=>(orc (q1b6 C))) 81
theorem q1bc C v:q24t (regO (qdk f45) 0) false (an [2,3,4]) q1b8 q1bb q1ba C v:=rgI (by kernel_rfl)
abbrev q1bd:Type:=Int×Int×Int×Int×Int×Int×Int
def q1be (v:q1bd):St:=⟨[(2,.ptr 0 0),(3,.ptr 1 0),(4,.ptr 2 0),(6,i6 v.1)],[.cells [i6 v.2.1,i6 v.2.2.1],.cells [i6 v.2.2.2.1,i6 v.2.2.2.2.1],.cells [i6 v.2.2.2.2.2.1,i6 v.2.2.2.2.2.2]]⟩
def q1bf (C:q1b4) (v:q1b9):Dt q1bd:=(Dt.bnd (C.2.1 ((v.1,v.2.1,()),(v.2.2.1,v.2.2.2.1,()),())) fun r1=>(Dt.ret (r1,v.1,v.2.1,v.2.2.1,v.2.2.2.1,v.2.2.2.2.1,v.2.2.2.2.2)))
theorem q1bg C v:q24t (regO (qdk f45) 1) false (an [2,3,4,6]) q1ba q1bf q1be C v:=rgI (by kernel_rfl)
abbrev q1bh:Type:=Int×Bool×Int×Int×Int×Int×Int×Int
def q1bi (v:q1bh):St:=⟨[(2,.ptr 0 0),(3,.ptr 1 0),(4,.ptr 2 0),(6,i6 v.1),(18,.bool v.2.1)],[.cells [i6 v.2.2.1,i6 v.2.2.2.1],.cells [i6 v.2.2.2.2.1,i6 v.2.2.2.2.2.1],.cells [i6 v.2.2.2.2.2.2.1,i6 v.2.2.2.2.2.2.2]]⟩
def q1bj (C:q1b4) (v:q1bd):Dt q1bh:=(Dt.ret (v.1,(v.1 != (0:Int)),v.2.1,v.2.2.1,v.2.2.2.1,v.2.2.2.2.1,v.2.2.2.2.2.1,v.2.2.2.2.2.2))
theorem q1bk C v:q24t (regO (qdk f45) 2) false (an [2,3,4,6,18]) q1be q1bj q1bi C v:=rgI (by kernel_rfl)
abbrev q1bl:Type:=Int×Int×Int
def q1bm (v:q1bl):St:=⟨[(4,.ptr 0 0),(5,i6 v.1)],[.cells [i6 v.2.1,i6 v.2.2]]⟩
def q1bn (C:q1b4) (v:q1bh):Dt q1bl:=(Dt.ret (v.1,(0:Int),(0:Int)))
theorem q1bo C v:q24t (regO (qdk f45) 3) false (an [4,5]) q1bi q1bn q1bm C v:=rgI (by kernel_rfl)
abbrev q1bp:Type:=Int×Int×Int×Int×Int×Int×Int
def q1bq (v:q1bp):St:=⟨[(2,.ptr 0 0),(3,.ptr 1 0),(4,.ptr 2 0),(7,i6 v.1)],[.cells [i6 v.2.1,i6 v.2.2.1],.cells [i6 v.2.2.2.1,i6 v.2.2.2.2.1],.cells [i6 v.2.2.2.2.2.1,i6 v.2.2.2.2.2.2]]⟩
def q1br (C:q1b4) (v:q1bh):Dt q1bp:=(Dt.bnd (C.1 (((IntKind.wrap .u64 v.2.2.2.1),()),((IntKind.wrap .u64 v.2.2.2.2.2.1),()),())) fun r1=>(Dt.ret ((IntKind.wrap .i64 r1),v.2.2.1,v.2.2.2.1,v.2.2.2.2.1,v.2.2.2.2.2.1,v.2.2.2.2.2.2.1,v.2.2.2.2.2.2.2)))
theorem q1bs C v:q24t (regO (qdk f45) 4) false (an [2,3,4,7]) q1bi q1br q1bq C v:=rgI (by kernel_rfl)
abbrev q1bt:Type:=Int×Int×Int×Int×Int×Int×Int×Bool×Int×Int
def q1bu (v:q1bt):St:=⟨[(2,.ptr 0 0),(3,.ptr 1 0),(4,.ptr 2 0),(7,i6 v.1),(8,.ptr 3 0)],[.cells [i6 v.2.1,i6 v.2.2.1],.cells [i6 v.2.2.2.1,i6 v.2.2.2.2.1],.cells [i6 v.2.2.2.2.2.1,i6 v.2.2.2.2.2.2.1],.cells [.bool v.2.2.2.2.2.2.2.1,u6 v.2.2.2.2.2.2.2.2.1,u6 v.2.2.2.2.2.2.2.2.2]]⟩
def q1bv (C:q1b4) (v:q1bp):Dt q1bt:=(Dt.ite (v.1 == (0:Int)) Dt.fail (Dt.bnd (C.2.2.1 ((v.2.1,()),((IntKind.wrap .i64 (Int.tdiv v.2.2.2.2.1 v.1)),()),())) fun r1=>(Dt.ite (v.1 == (0:Int)) Dt.fail (Dt.bnd (C.2.2.1 ((v.2.2.2.1,()),((IntKind.wrap .i64 (Int.tdiv v.2.2.1 v.1)),()),())) fun r2=>(Dt.bnd (C.2.2.2.2.1 ((r1.1,r1.2.1,r1.2.2,()),(r2.1,r2.2.1,r2.2.2,()),())) fun r3=>(Dt.ret (v.1,v.2.1,v.2.2.1,v.2.2.2.1,v.2.2.2.2.1,v.2.2.2.2.2.1,v.2.2.2.2.2.2,r3.1,r3.2.1,r3.2.2)))))))
theorem q1bw C v:q24t (regO (qdk f45) 5) true (an [2,3,4,7,8]) q1bq q1bv q1bu C v:=rgI (by kernel_rfl)
abbrev q1bx:Type:=Int×Int×Int×Int×Int×Int×Int×Int×Bool×Int×Int
def q1by (v:q1bx):St:=⟨[(2,.ptr 0 0),(3,.ptr 1 0),(4,.ptr 2 0),(7,i6 v.1),(8,.ptr 3 0),(10,u6 v.2.1)],[.cells [i6 v.2.2.1,i6 v.2.2.2.1],.cells [i6 v.2.2.2.2.1,i6 v.2.2.2.2.2.1],.cells [i6 v.2.2.2.2.2.2.1,i6 v.2.2.2.2.2.2.2.1],.cells [.bool v.2.2.2.2.2.2.2.2.1,u6 v.2.2.2.2.2.2.2.2.2.1,u6 v.2.2.2.2.2.2.2.2.2.2]]⟩
def q1bz (C:q1b4) (v:q1bt):Dt q1bx:=(Dt.bnd (C.2.2.2.2.2.1 ((v.2.2.2.2.2.2.2.1,v.2.2.2.2.2.2.2.2.1,v.2.2.2.2.2.2.2.2.2,()),((IntKind.wrap .u64 v.1),()),())) fun r1=>(Dt.ret (v.1,r1.2.2.2,v.2.1,v.2.2.1,v.2.2.2.1,v.2.2.2.2.1,v.2.2.2.2.2.1,v.2.2.2.2.2.2.1,v.2.2.2.2.2.2.2.1,v.2.2.2.2.2.2.2.2.1,v.2.2.2.2.2.2.2.2.2)))
theorem q1c0 C v:q24t (regO (qdk f45) 6) false (an [2,3,4,7,8,10]) q1bu q1bz q1by C v:=rgI (by kernel_rfl)
abbrev q1c1:Type:=Int×Int×Int×Int×Int×Int×Int×Int×Bool×Int×Int
def q1c2 (v:q1c1):St:=⟨[(2,.ptr 0 0),(3,.ptr 1 0),(4,.ptr 2 0),(7,i6 v.1),(8,.ptr 3 0),(11,u6 v.2.1)],[.cells [i6 v.2.2.1,i6 v.2.2.2.1],.cells [i6 v.2.2.2.2.1,i6 v.2.2.2.2.2.1],.cells [i6 v.2.2.2.2.2.2.1,i6 v.2.2.2.2.2.2.2.1],.cells [.bool v.2.2.2.2.2.2.2.2.1,u6 v.2.2.2.2.2.2.2.2.2.1,u6 v.2.2.2.2.2.2.2.2.2.2]]⟩
def q1c3 (C:q1b4) (v:q1bx):Dt q1c1:=(Dt.bnd (C.1 (((IntKind.wrap .u64 v.1),()),(v.2.1,()),())) fun r1=>(Dt.ret (v.1,r1,v.2.2.1,v.2.2.2.1,v.2.2.2.2.1,v.2.2.2.2.2.1,v.2.2.2.2.2.2.1,v.2.2.2.2.2.2.2.1,v.2.2.2.2.2.2.2.2.1,v.2.2.2.2.2.2.2.2.2.1,v.2.2.2.2.2.2.2.2.2.2)))
theorem q1c4 C v:q24t (regO (qdk f45) 7) false (an [2,3,4,7,8,11]) q1by q1c3 q1c2 C v:=rgI (by kernel_rfl)
def q1c5 (C:q1b4) (v:q1c1):Dt q1c1:=(Dt.bnd (C.2.2.2.2.2.1 ((v.2.2.2.2.2.2.2.2.1,v.2.2.2.2.2.2.2.2.2.1,v.2.2.2.2.2.2.2.2.2.2,()),(v.2.1,()),())) fun r1=>(Dt.ret (v.1,v.2.1,v.2.2.1,v.2.2.2.1,v.2.2.2.2.1,v.2.2.2.2.2.1,v.2.2.2.2.2.2.1,v.2.2.2.2.2.2.2.1,r1.1,r1.2.1,r1.2.2.1)))
theorem q1c6 C v:q24t (regO (qdk f45) 8) false (an [2,3,4,7,8,11]) q1c2 q1c5 q1c2 C v:=rgI (by kernel_rfl)
abbrev q1c7:Type:=Int×Int×Int×Int×Bool×Int×Int
def q1c8 (v:q1c7):St:=⟨[(4,.ptr 0 0),(8,.ptr 1 0),(12,u6 v.1),(13,u6 v.2.1)],[.cells [i6 v.2.2.1,i6 v.2.2.2.1],.cells [.bool v.2.2.2.2.1,u6 v.2.2.2.2.2.1,u6 v.2.2.2.2.2.2]]⟩
def q1c9 (C:q1b4) (v:q1c1):Dt q1c7:=(Dt.ite (v.1 == (0:Int)) Dt.fail (Dt.ite (v.2.1 == (0:Int)) Dt.fail (Dt.bnd (C.2.2.2.1 (((IntKind.wrap .u64 (IntKind.wrap .i64 (Int.tdiv v.2.2.2.1 v.1))),()),((IntKind.wrap .u64 (Int.tdiv (IntKind.wrap .u64 v.2.2.2.2.2.1) v.2.1)),()),())) fun r1=>(Dt.ret (r1.1,r1.2,v.2.2.2.2.2.2.1,v.2.2.2.2.2.2.2.1,v.2.2.2.2.2.2.2.2.1,v.2.2.2.2.2.2.2.2.2.1,v.2.2.2.2.2.2.2.2.2.2)))))
theorem q1ca C v:q24t (regO (qdk f45) 9) true (an [4,8,12,13]) q1c2 q1c9 q1c8 C v:=rgI (by kernel_rfl)
def q1cb (C:q1b4) (v:q1c7):Dt q1bl:=(Dt.bnd (C.2.2.2.2.2.2.1 ((v.2.2.2.2.1,v.2.2.2.2.2.1,v.2.2.2.2.2.2,()),(v.1,()),(v.2.1,()),())) fun r1=>(Dt.ret (r1.2.2,r1.1,r1.2.1)))
theorem q1cc C v:q24t (regO (qdk f45) 10) false (an [4,5]) q1c8 q1cb q1bm C v:=rgI (by kernel_rfl)
def q1cd (d:Nat) (x:q1b0):Option q1b1 :=
 (q1bb (q1b5 d) (x.1.1,x.1.2.1,x.2.1.1,x.2.1.2.1)).eval fun y0 =>
 (q1bf (q1b5 d) y0).eval fun y1 =>
 (q1bj (q1b5 d) y1).eval fun y2 =>
 bif y2.2.1 then ((q1bn (q1b5 d) y2).eval fun y3 =>
 some (y3.2.1,y3.2.2,y3.1)) else ((q1br (q1b5 d) y2).eval fun y4 =>
 (q1bv (q1b5 d) y4).eval fun y5 =>
 (q1bz (q1b5 d) y5).eval fun y6 =>
 (q1c3 (q1b5 d) y6).eval fun y7 =>
 (q1c5 (q1b5 d) y7).eval fun y8 =>
 (q1c9 (q1b5 d) y8).eval fun y9 =>
 (q1cb (q1b5 d) y9).eval fun y10 =>
 some (y10.2.1,y10.2.2,y10.1))
theorem q1ce (d:Nat):COK prog (q1b3 (q1cd d)):=by
 have hm:prog.follows .mixedOrders=true:=mixed
 have hT:=tys
 have hC0:OrcOK prog (orc (q1b6 (q1b5 d))):=qde (by
  intro S hS
  simp only [q1b6,List.mem_cons,List.not_mem_nil,or_false] at hS
  rcases hS with rfl | rfl | rfl | rfl | rfl | rfl | rfl
  · exact q17q d
  · exact qte d
  · exact qwt d
  · exact qmg d
  · exact q193 d
  · exact q19v d
  · exact q1ay d)
 have hC:OrcOK prog (orc (q1b6 (q1b5 d))):=hC0
 refine q93 (c:=qdk f45) (fn:=f45) hT (by kernel_rfl) (by kernel_rfl) (by decide) fun x r h w0 φ0 Q hend=>?_
 replace h:q1cd d x=some r:=h
 unfold q1cd at h
 show Run prog w0 φ0 81 (qdk f45) ⟨[(0,.agg [.int .i64 x.1.1,.int .i64 x.1.2.1]),(1,.agg [.int .i64 x.2.1.1,.int .i64 x.2.1.2.1])],[]⟩ Q
 refine q24b hm hT hC (q1bc (q1b5 d) (x.1.1,x.1.2.1,x.2.1.1,x.2.1.2.1)) h fun y0 h=>?_
 refine q8m ?_
 refine q24b hm hT hC (q1bg (q1b5 d) y0) h fun y1 h=>?_
 refine q24b hm hT hC (q1bk (q1b5 d) y1) h fun y2 h=>?_
 refine q8q (v:=y2.2.1) (by kernel_rfl) h ?_ ?_
 ·
  intro h
  refine q24b hm hT hC (q1bo (q1b5 d) y2) h fun y3 h=>?_
  refine q8l (q8a ?_)
  cases h
  exact (hend _ (by kernel_rfl)).2
 ·
  intro h
  refine q8i (q88 ?_)
  refine q24b hm hT hC (q1bs (q1b5 d) y2) h fun y4 h=>?_
  refine q24b hm hT hC (q1bw (q1b5 d) y4) h fun y5 h=>?_
  refine q24b hm hT hC (q1c0 (q1b5 d) y5) h fun y6 h=>?_
  refine q24b hm hT hC (q1c4 (q1b5 d) y6) h fun y7 h=>?_
  refine q24b hm hT hC (q1c6 (q1b5 d) y7) h fun y8 h=>?_
  refine q24b hm hT hC (q1ca (q1b5 d) y8) h fun y9 h=>?_
  refine q24b hm hT hC (q1cc (q1b5 d) y9) h fun y10 h=>?_
  refine q8l ?_
  cases h
  exact (hend _ (by kernel_rfl)).2
abbrev q1cf:List Pk:=[.row Rii true,.row Rii true]
abbrev q1cg:Type:=Dii×Dii×Unit
abbrev q1ch:Type:=Int×Int×Int
def q1ci (r:q1ch):LV×List Ob:=(.tup [.agg [.int .i64 r.1,.int .i64 r.2.1],.int .i64 r.2.2],[])
def q1cj (F:q1cg→Option q1ch):Go.Tx.Spec:=⟨28,q1cf,q1ch,F,q1ci⟩
abbrev q1ck:Type:=(qsw→Option qsx)×(q1b0→Option q1b1)×Unit
def q1cl (d:Nat):q1ck:=(qtd d,q1cd d,())
def q1cm (C:q1ck):List Go.Tx.Spec:=[qsz C.1,q1b3 C.2.1]
abbrev q1cn:Type:=Int×Int×Int×Int
def q1co (v:q1cn):St:=⟨[(0,.agg [i6 v.1,i6 v.2.1]),(1,.agg [i6 v.2.2.1,i6 v.2.2.2])],[]⟩
abbrev q1cp:Type:=Int×Int×Int×Int×Int×Int
def q1cq (v:q1cp):St:=⟨[(2,.ptr 0 0),(3,.ptr 1 0),(4,.ptr 2 0)],[.cells [i6 v.1,i6 v.2.1],.cells [i6 v.2.2.1,i6 v.2.2.2.1],.cells [i6 v.2.2.2.2.1,i6 v.2.2.2.2.2]]⟩
def q1cr (C:q1ck) (v:q1cn):Dt q1cp:=(Dt.ret (v.1,v.2.1,v.2.2.1,v.2.2.2,(0:Int),(0:Int)))
abbrev q24u {V Y:Type}:=@rg q1ck V Y tysT (fun C=>(orc (q1cm C))) 23
theorem q1cs C v:q24u (regO (qdk f28) 0) false (an [2,3,4]) q1co q1cr q1cq C v:=rgI (by kernel_rfl)
abbrev q1ct:Type:=Int×Int×Int×Int×Int×Int×Int
def q1cu (v:q1ct):St:=⟨[(2,.ptr 0 0),(3,.ptr 1 0),(4,.ptr 2 0),(6,i6 v.1)],[.cells [i6 v.2.1,i6 v.2.2.1],.cells [i6 v.2.2.2.1,i6 v.2.2.2.2.1],.cells [i6 v.2.2.2.2.2.1,i6 v.2.2.2.2.2.2]]⟩
def q1cv (C:q1ck) (v:q1cp):Dt q1ct:=(Dt.bnd (C.1 ((v.1,v.2.1,()),(v.2.2.1,v.2.2.2.1,()),())) fun r1=>(Dt.ret (r1,v.1,v.2.1,v.2.2.1,v.2.2.2.1,v.2.2.2.2.1,v.2.2.2.2.2)))
theorem q1cw C v:q24u (regO (qdk f28) 1) false (an [2,3,4,6]) q1cq q1cv q1cu C v:=rgI (by kernel_rfl)
abbrev q1cx:Type:=Int×Bool×Int×Int×Int×Int×Int×Int
def q1cy (v:q1cx):St:=⟨[(2,.ptr 0 0),(3,.ptr 1 0),(4,.ptr 2 0),(6,i6 v.1),(11,.bool v.2.1)],[.cells [i6 v.2.2.1,i6 v.2.2.2.1],.cells [i6 v.2.2.2.2.1,i6 v.2.2.2.2.2.1],.cells [i6 v.2.2.2.2.2.2.1,i6 v.2.2.2.2.2.2.2]]⟩
def q1cz (C:q1ck) (v:q1ct):Dt q1cx:=(Dt.ret (v.1,(v.1 != (0:Int)),v.2.1,v.2.2.1,v.2.2.2.1,v.2.2.2.2.1,v.2.2.2.2.2.1,v.2.2.2.2.2.2))
theorem q1d0 C v:q24u (regO (qdk f28) 2) false (an [2,3,4,6,11]) q1cu q1cz q1cy C v:=rgI (by kernel_rfl)
abbrev q1d1:Type:=Int×Int×Int
def q1d2 (v:q1d1):St:=⟨[(4,.ptr 0 0),(5,i6 v.1)],[.cells [i6 v.2.1,i6 v.2.2]]⟩
def q1d3 (C:q1ck) (v:q1cx):Dt q1d1:=(Dt.ret (v.1,(0:Int),(0:Int)))
theorem q1d4 C v:q24u (regO (qdk f28) 3) false (an [4,5]) q1cy q1d3 q1d2 C v:=rgI (by kernel_rfl)
def q1d5 (C:q1ck) (v:q1cx):Dt q1cp:=(Dt.ret (v.2.2.1,v.2.2.2.1,(IntKind.wrap .i64 (0 - v.2.2.2.2.1)),v.2.2.2.2.2.1,v.2.2.2.2.2.2.1,v.2.2.2.2.2.2.2))
theorem q1d6 C v:q24u (regO (qdk f28) 4) false (an [2,3,4]) q1cy q1d5 q1cq C v:=rgI (by kernel_rfl)
def q1d7 (C:q1ck) (v:q1cp):Dt q1d1:=(Dt.bnd (C.2.1 ((v.1,v.2.1,()),(v.2.2.1,v.2.2.2.1,()),())) fun r1=>(Dt.ret (r1.2.2,r1.1,r1.2.1)))
theorem q1d8 C v:q24u (regO (qdk f28) 5) false (an [4,5]) q1cq q1d7 q1d2 C v:=rgI (by kernel_rfl)
def q1d9 (d:Nat) (x:q1cg):Option q1ch :=
 (q1cr (q1cl d) (x.1.1,x.1.2.1,x.2.1.1,x.2.1.2.1)).eval fun y0 =>
 (q1cv (q1cl d) y0).eval fun y1 =>
 (q1cz (q1cl d) y1).eval fun y2 =>
 bif y2.2.1 then ((q1d3 (q1cl d) y2).eval fun y3 =>
 some (y3.2.1,y3.2.2,y3.1)) else ((q1d5 (q1cl d) y2).eval fun y4 =>
 (q1d7 (q1cl d) y4).eval fun y5 =>
 some (y5.2.1,y5.2.2,y5.1))
theorem q1da (d:Nat):COK prog (q1cj (q1d9 d)):=by
 have hm:prog.follows .mixedOrders=true:=mixed
 have hT:=tys
 have hC0:OrcOK prog (orc (q1cm (q1cl d))):=qde (by
  intro S hS
  simp only [q1cm,List.mem_cons,List.not_mem_nil,or_false] at hS
  rcases hS with rfl | rfl
  · exact qte d
  · exact q1ce d)
 have hC:OrcOK prog (orc (q1cm (q1cl d))):=hC0
 refine q93 (c:=qdk f28) (fn:=f28) hT (by kernel_rfl) (by kernel_rfl) (by decide) fun x r h w0 φ0 Q hend=>?_
 replace h:q1d9 d x=some r:=h
 unfold q1d9 at h
 show Run prog w0 φ0 23 (qdk f28) ⟨[(0,.agg [.int .i64 x.1.1,.int .i64 x.1.2.1]),(1,.agg [.int .i64 x.2.1.1,.int .i64 x.2.1.2.1])],[]⟩ Q
 refine q24b hm hT hC (q1cs (q1cl d) (x.1.1,x.1.2.1,x.2.1.1,x.2.1.2.1)) h fun y0 h=>?_
 refine q8m ?_
 refine q24b hm hT hC (q1cw (q1cl d) y0) h fun y1 h=>?_
 refine q24b hm hT hC (q1d0 (q1cl d) y1) h fun y2 h=>?_
 refine q8q (v:=y2.2.1) (by kernel_rfl) h ?_ ?_
 ·
  intro h
  refine q24b hm hT hC (q1d4 (q1cl d) y2) h fun y3 h=>?_
  refine q8l (q8a ?_)
  cases h
  exact (hend _ (by kernel_rfl)).2
 ·
  intro h
  refine q8i (q88 ?_)
  refine q24b hm hT hC (q1d6 (q1cl d) y2) h fun y4 h=>?_
  refine q24b hm hT hC (q1d8 (q1cl d) y4) h fun y5 h=>?_
  refine q8l ?_
  cases h
  exact (hend _ (by kernel_rfl)).2
abbrev q1db:List Pk:=[.row Riii true,.row Rii true]
abbrev q1dc:Type:=Diii×Dii×Unit
abbrev q1dd:Type:=Int×Int×Int
def q1de (r:q1dd):LV×List Ob:=(.tup [.agg [.int .i64 r.1,.int .i64 r.2.1],.int .i64 r.2.2],[])
def q1df (F:q1dc→Option q1dd):Go.Tx.Spec:=⟨27,q1db,q1dd,F,q1de⟩
abbrev q1dg:Type:=(qmi→Option qmj)×(qmr→Option qms)×(q16u→Option q16v)×(q168→Option q169)×(q134→Option q135)×Unit
def q1dh (d:Nat):q1dg:=(qmn d,qmw d,q16z d,q16r d,q165 d,())
def q1di (C:q1dg):List Go.Tx.Spec:=[qml C.1,qmu C.2.1,q16x C.2.2.1,q16b C.2.2.2.1,q137 C.2.2.2.2.1]
abbrev q1dj:Type:=Int×Int×Int×Int×Int
def q1dk (v:q1dj):St:=⟨[(0,.agg [i6 v.1,i6 v.2.1,i6 v.2.2.1]),(1,.agg [i6 v.2.2.2.1,i6 v.2.2.2.2])],[]⟩
abbrev q1dl:Type:=Int×Int×Int×Int×Int×Int×Int
def q1dm (v:q1dl):St:=⟨[(2,.ptr 0 0),(3,.ptr 1 0),(4,.ptr 2 0)],[.cells [i6 v.1,i6 v.2.1,i6 v.2.2.1],.cells [i6 v.2.2.2.1,i6 v.2.2.2.2.1],.cells [i6 v.2.2.2.2.2.1,i6 v.2.2.2.2.2.2]]⟩
def q1dn (C:q1dg) (v:q1dj):Dt q1dl:=(Dt.ret (v.1,v.2.1,v.2.2.1,v.2.2.2.1,v.2.2.2.2,(0:Int),(0:Int)))
abbrev q24v {V Y:Type}:=@rg q1dg V Y tysT (fun C=>(orcI 42 q114 (orc (q1di C)))) 111
theorem q1do C v:q24v (regO (qdk f27) 0) false (an [2,3,4]) q1dk q1dn q1dm C v:=rgI (by kernel_rfl)
abbrev q1dp:Type:=Int×Int×Int×Int×Int×Int×Int×Int
def q1dq (v:q1dp):St:=⟨[(2,.ptr 0 0),(3,.ptr 1 0),(4,.ptr 2 0),(6,i6 v.1)],[.cells [i6 v.2.1,i6 v.2.2.1,i6 v.2.2.2.1],.cells [i6 v.2.2.2.2.1,i6 v.2.2.2.2.2.1],.cells [i6 v.2.2.2.2.2.2.1,i6 v.2.2.2.2.2.2.2]]⟩
def q1dr (C:q1dg) (v:q1dl):Dt q1dp:=(Dt.bnd (C.2.1 ((v.1,v.2.1,v.2.2.1,()),())) fun r1=>(Dt.bnd (C.1 ((v.2.2.2.1,v.2.2.2.2.1,()),())) fun r2=>(Dt.ret ((tmax r1 r2),v.1,v.2.1,v.2.2.1,v.2.2.2.1,v.2.2.2.2.1,v.2.2.2.2.2.1,v.2.2.2.2.2.2))))
theorem q1ds C v:q24v (regO (qdk f27) 1) true (an [2,3,4,6]) q1dm q1dr q1dq C v:=rgI (by kernel_rfl)
abbrev q1dt:Type:=Int×Bool×Int×Int×Int×Int×Int×Int×Int
def q1du (v:q1dt):St:=⟨[(2,.ptr 0 0),(3,.ptr 1 0),(4,.ptr 2 0),(6,i6 v.1),(24,.bool v.2.1)],[.cells [i6 v.2.2.1,i6 v.2.2.2.1,i6 v.2.2.2.2.1],.cells [i6 v.2.2.2.2.2.1,i6 v.2.2.2.2.2.2.1],.cells [i6 v.2.2.2.2.2.2.2.1,i6 v.2.2.2.2.2.2.2.2]]⟩
def q1dv (C:q1dg) (v:q1dp):Dt q1dt:=(Dt.ret (v.1,(v.1 != (0:Int)),v.2.1,v.2.2.1,v.2.2.2.1,v.2.2.2.2.1,v.2.2.2.2.2.1,v.2.2.2.2.2.2.1,v.2.2.2.2.2.2.2))
theorem q1dw C v:q24v (regO (qdk f27) 2) false (an [2,3,4,6,24]) q1dq q1dv q1du C v:=rgI (by kernel_rfl)
abbrev q1dx:Type:=Int×Int×Int
def q1dy (v:q1dx):St:=⟨[(4,.ptr 0 0),(5,i6 v.1)],[.cells [i6 v.2.1,i6 v.2.2]]⟩
def q1dz (C:q1dg) (v:q1dt):Dt q1dx:=(Dt.ret (v.1,(0:Int),(0:Int)))
theorem q1e0 C v:q24v (regO (qdk f27) 3) false (an [4,5]) q1du q1dz q1dy C v:=rgI (by kernel_rfl)
abbrev q1e1:Type:=Int×Int×Int×Int×Int×Int
def q1e2 (v:q1e1):St:=⟨[(3,.ptr 0 0),(4,.ptr 1 0),(7,.ptr 2 0)],[.cells [i6 v.1,i6 v.2.1],.cells [i6 v.2.2.1,i6 v.2.2.2.1],.cells [i6 v.2.2.2.2.1,u6 v.2.2.2.2.2]]⟩
def q1e3 (C:q1dg) (v:q1dt):Dt q1e1:=(Dt.bnd (C.2.2.1 ((v.2.2.2.1,v.2.2.2.2.2.2.1,v.2.2.2.2.1,v.2.2.2.2.2.1,()),())) fun r1=>(Dt.ret (v.2.2.2.2.2.1,v.2.2.2.2.2.2.1,v.2.2.2.2.2.2.2.1,v.2.2.2.2.2.2.2.2,r1.1,r1.2)))
theorem q1e4 C v:q24v (regO (qdk f27) 4) false (an [3,4,7]) q1du q1e3 q1e2 C v:=rgI (by kernel_rfl)
abbrev q1e5:Type:=Bool×Int×Int×Int×Int×Int×Int
def q1e6 (v:q1e5):St:=⟨[(3,.ptr 0 0),(4,.ptr 1 0),(7,.ptr 2 0),(8,.bool v.1)],[.cells [i6 v.2.1,i6 v.2.2.1],.cells [i6 v.2.2.2.1,i6 v.2.2.2.2.1],.cells [i6 v.2.2.2.2.2.1,u6 v.2.2.2.2.2.2]]⟩
def q1e7 (C:q1dg) (v:q1e1):Dt q1e5:=(Dt.ret ((decide (v.2.2.2.2.1<(0:Int))),v.1,v.2.1,v.2.2.1,v.2.2.2.1,v.2.2.2.2.1,v.2.2.2.2.2))
theorem q1e8 C v:q24v (regO (qdk f27) 5) false (an [3,4,7,8]) q1e2 q1e7 q1e6 C v:=rgI (by kernel_rfl)
abbrev q1e9:Type:=Bool×Bool×Int×Int×Int×Int×Int×Int
def q1ea (v:q1e9):St:=⟨[(3,.ptr 0 0),(4,.ptr 1 0),(7,.ptr 2 0),(8,.bool v.1),(42,.bool v.2.1)],[.cells [i6 v.2.2.1,i6 v.2.2.2.1],.cells [i6 v.2.2.2.2.1,i6 v.2.2.2.2.2.1],.cells [i6 v.2.2.2.2.2.2.1,u6 v.2.2.2.2.2.2.2]]⟩
def q1eb (C:q1dg) (v:q1e5):Dt q1e9:=(Dt.ret (v.1,v.1,v.2.1,v.2.2.1,v.2.2.2.1,v.2.2.2.2.1,v.2.2.2.2.2.1,v.2.2.2.2.2.2))
theorem q1ec C v:q24v (regO (qdk f27) 6) false (an [3,4,7,8,42]) q1e6 q1eb q1ea C v:=rgI (by kernel_rfl)
abbrev q1ed:Type:=Bool×Int×Int×Int×Int×Int×Int×Int×Int
def q1ee (v:q1ed):St:=⟨[(3,.ptr 0 0),(4,.ptr 1 0),(7,.ptr 2 0),(8,.bool v.1),(9,u6 v.2.1),(10,u6 v.2.2.1)],[.cells [i6 v.2.2.2.1,i6 v.2.2.2.2.1],.cells [i6 v.2.2.2.2.2.1,i6 v.2.2.2.2.2.2.1],.cells [i6 v.2.2.2.2.2.2.2.1,u6 v.2.2.2.2.2.2.2.2]]⟩
def q1ef (C:q1dg) (v:q1e9):Dt q1ed:=(Dt.bnd (q114 ((0:Int)) (v.2.2.2.2.2.2.2) ((0:Int))) fun r1=>(Dt.ret (v.1,r1.1,r1.2,v.2.2.1,v.2.2.2.1,v.2.2.2.2.1,v.2.2.2.2.2.1,v.2.2.2.2.2.2.1,v.2.2.2.2.2.2.2)))
theorem q1eg C v:q24v (regO (qdk f27) 7) false (an [3,4,7,8,9,10]) q1ea q1ef q1ee C v:=rgI (by kernel_rfl)
def q1eh (C:q1dg) (v:q1ed):Dt q1e5:=(Dt.ret (v.1,v.2.2.2.1,v.2.2.2.2.1,v.2.2.2.2.2.1,v.2.2.2.2.2.2.1,(IntKind.wrap .i64 ((IntKind.wrap .i64 (0 - v.2.2.2.2.2.2.2.1)) - (IntKind.wrap .i64 v.2.2.1))),v.2.1))
theorem q1ei C v:q24v (regO (qdk f27) 8) false (an [3,4,7,8]) q1ee q1eh q1e6 C v:=rgI (by kernel_rfl)
abbrev q1ej:Type:=Bool×Int×Int×Int×Int×Int
def q1ek (v:q1ej):St:=⟨[(4,.ptr 0 0),(7,.ptr 1 0),(8,.bool v.1),(11,u6 v.2.1)],[.cells [i6 v.2.2.1,i6 v.2.2.2.1],.cells [i6 v.2.2.2.2.1,u6 v.2.2.2.2.2]]⟩
def q1el (C:q1dg) (v:q1e5):Dt q1ej:=(Dt.ret (v.1,(IntKind.wrap .u64 v.2.2.1),v.2.2.2.1,v.2.2.2.2.1,v.2.2.2.2.2.1,v.2.2.2.2.2.2))
theorem q1em C v:q24v (regO (qdk f27) 9) false (an [4,7,8,11]) q1e6 q1el q1ek C v:=rgI (by kernel_rfl)
abbrev q1en:Type:=Bool×Int×Int×Int×Int×Int×Int
def q1eo (v:q1en):St:=⟨[(4,.ptr 0 0),(7,.ptr 1 0),(8,.bool v.1),(11,u6 v.2.1),(12,u6 v.2.2.1)],[.cells [i6 v.2.2.2.1,i6 v.2.2.2.2.1],.cells [i6 v.2.2.2.2.2.1,u6 v.2.2.2.2.2.2]]⟩
def q1ep (C:q1dg) (v:q1ej):Dt q1en:=(Dt.bnd (C.2.2.2.1 (((IntKind.wrap .u64 v.2.2.2.2.1),()),(v.2.2.2.2.2,()),(v.2.1,()),())) fun r1=>(Dt.ret (v.1,v.2.1,r1,v.2.2.1,v.2.2.2.1,v.2.2.2.2.1,v.2.2.2.2.2)))
theorem q1eq C v:q24v (regO (qdk f27) 10) false (an [4,7,8,11,12]) q1ek q1ep q1eo C v:=rgI (by kernel_rfl)
abbrev q1er:Type:=Bool×Int×Int×Int×Int×Int×Int×Int
def q1es (v:q1er):St:=⟨[(4,.ptr 0 0),(7,.ptr 1 0),(8,.bool v.1),(11,u6 v.2.1),(12,u6 v.2.2.1),(13,u6 v.2.2.2.1)],[.cells [i6 v.2.2.2.2.1,i6 v.2.2.2.2.2.1],.cells [i6 v.2.2.2.2.2.2.1,u6 v.2.2.2.2.2.2.2]]⟩
def q1et (C:q1dg) (v:q1en):Dt q1er:=(Dt.ret (v.1,v.2.1,v.2.2.1,v.2.1,v.2.2.2.1,v.2.2.2.2.1,v.2.2.2.2.2.1,v.2.2.2.2.2.2))
theorem q1eu C v:q24v (regO (qdk f27) 11) false (an [4,7,8,11,12,13]) q1eo q1et q1es C v:=rgI (by kernel_rfl)
abbrev q1ev:Type:=Bool×Int×Int×Int×Bool×Int×Int×Int×Int
def q1ew (v:q1ev):St:=⟨[(4,.ptr 0 0),(7,.ptr 1 0),(8,.bool v.1),(11,u6 v.2.1),(12,u6 v.2.2.1),(13,u6 v.2.2.2.1),(69,.bool v.2.2.2.2.1)],[.cells [i6 v.2.2.2.2.2.1,i6 v.2.2.2.2.2.2.1],.cells [i6 v.2.2.2.2.2.2.2.1,u6 v.2.2.2.2.2.2.2.2]]⟩
def q1ex (C:q1dg) (v:q1er):Dt q1ev:=(Dt.ret (v.1,v.2.1,v.2.2.1,v.2.2.2.1,(decide (v.2.2.1 > (0:Int))),v.2.2.2.2.1,v.2.2.2.2.2.1,v.2.2.2.2.2.2.1,v.2.2.2.2.2.2.2))
theorem q1ey C v:q24v (regO (qdk f27) 12) false (an [4,7,8,11,12,13,69]) q1es q1ex q1ew C v:=rgI (by kernel_rfl)
def q1ez (C:q1dg) (v:q1ev):Dt q1er:=(Dt.ite (v.2.2.1 == (0:Int)) Dt.fail (Dt.ret (v.1,v.2.1,(Int.tmod v.2.2.2.1 v.2.2.1),v.2.2.1,v.2.2.2.2.2.1,v.2.2.2.2.2.2.1,v.2.2.2.2.2.2.2.1,v.2.2.2.2.2.2.2.2)))
theorem q1f0 C v:q24v (regO (qdk f27) 13) true (an [4,7,8,11,12,13]) q1ew q1ez q1es C v:=rgI (by kernel_rfl)
abbrev q1f1:Type:=Bool×Int×Int×Int×Int×Int×Int×Int
def q1f2 (v:q1f1):St:=⟨[(4,.ptr 0 0),(7,.ptr 1 0),(8,.bool v.1),(11,u6 v.2.1),(13,u6 v.2.2.1),(14,u6 v.2.2.2.1)],[.cells [i6 v.2.2.2.2.1,i6 v.2.2.2.2.2.1],.cells [i6 v.2.2.2.2.2.2.1,u6 v.2.2.2.2.2.2.2]]⟩
def q1f3 (C:q1dg) (v:q1ev):Dt q1f1:=(Dt.ite (v.2.2.2.1 == (0:Int)) Dt.fail (Dt.ret (v.1,v.2.1,v.2.2.2.1,(IntKind.wrap .u64 (Int.tdiv (IntKind.wrap .u64 v.2.2.2.2.2.2.2.1) v.2.2.2.1)),v.2.2.2.2.2.1,v.2.2.2.2.2.2.1,v.2.2.2.2.2.2.2.1,v.2.2.2.2.2.2.2.2)))
theorem q1f4 C v:q24v (regO (qdk f27) 14) false (an [4,7,8,11,13,14]) q1ew q1f3 q1f2 C v:=rgI (by kernel_rfl)
abbrev q1f5:Type:=Bool×Int×Int×Int×Int×Int×Int
def q1f6 (v:q1f5):St:=⟨[(4,.ptr 0 0),(8,.bool v.1),(11,u6 v.2.1),(13,u6 v.2.2.1),(14,u6 v.2.2.2.1),(15,u6 v.2.2.2.2.1)],[.cells [i6 v.2.2.2.2.2.1,i6 v.2.2.2.2.2.2]]⟩
def q1f7 (C:q1dg) (v:q1f1):Dt q1f5:=(Dt.ite (v.2.2.1 == (0:Int)) Dt.fail (Dt.bnd (C.2.2.2.2.1 (((Int.tmod (IntKind.wrap .u64 v.2.2.2.2.2.2.1) v.2.2.1),()),(v.2.2.2.2.2.2.2,()),(v.2.2.1,()),())) fun r1=>(Dt.ret (v.1,v.2.1,v.2.2.1,v.2.2.2.1,r1.1,v.2.2.2.2.1,v.2.2.2.2.2.1))))
theorem q1f8 C v:q24v (regO (qdk f27) 15) true (an [4,8,11,13,14,15]) q1f2 q1f7 q1f6 C v:=rgI (by kernel_rfl)
abbrev q1f9:Type:=Bool×Int×Int×Int×Bool×Int×Int
def q1fa (v:q1f9):St:=⟨[(4,.ptr 0 0),(8,.bool v.1),(11,u6 v.2.1),(13,u6 v.2.2.1),(15,u6 v.2.2.2.1),(96,.bool v.2.2.2.2.1)],[.cells [i6 v.2.2.2.2.2.1,i6 v.2.2.2.2.2.2]]⟩
def q1fb (C:q1dg) (v:q1f5):Dt q1f9:=(Dt.ite (decide (v.2.2.2.1 > (0:Int))) (Dt.ret (v.1,v.2.1,v.2.2.1,v.2.2.2.2.1,true,v.2.2.2.2.2.1,v.2.2.2.2.2.2)) (Dt.ret (v.1,v.2.1,v.2.2.1,v.2.2.2.2.1,(decide (v.2.2.2.2.1 > (9223372036854775807:Int))),v.2.2.2.2.2.1,v.2.2.2.2.2.2)))
theorem q1fc C v:q24v (regO (qdk f27) 16) false (an [4,8,11,13,15,96]) q1f6 q1fb q1fa C v:=rgI (by kernel_rfl)
def q1fd (C:q1dg) (v:q1f9):Dt q1dx:=(Dt.ret ((16:Int),(0:Int),(0:Int)))
theorem q1fe C v:q24v (regO (qdk f27) 17) false (an [4,5]) q1fa q1fd q1dy C v:=rgI (by kernel_rfl)
abbrev q1ff:Type:=Bool×Int×Int×Int×Int
def q1fg (v:q1ff):St:=⟨[(4,.ptr 0 0),(8,.bool v.1),(17,.ptr 1 0)],[.cells [i6 v.2.1,i6 v.2.2.1],.cells [i6 v.2.2.2.1,i6 v.2.2.2.2]]⟩
def q1fh (C:q1dg) (v:q1f9):Dt q1ff:=(Dt.ite (v.2.2.1 == (0:Int)) Dt.fail (Dt.ret (v.1,v.2.2.2.2.2.1,v.2.2.2.2.2.2,(IntKind.wrap .i64 v.2.2.2.1),(IntKind.wrap .i64 (IntKind.wrap .u64 (Int.tdiv v.2.1 v.2.2.1))))))
theorem q1fi C v:q24v (regO (qdk f27) 18) false (an [4,8,17]) q1fa q1fh q1fg C v:=rgI (by kernel_rfl)
abbrev q1fj:Type:=Bool×Int×Int×Int×Int
def q1fk (v:q1fj):St:=⟨[(4,.ptr 0 0),(17,.ptr 1 0),(105,.bool v.1)],[.cells [i6 v.2.1,i6 v.2.2.1],.cells [i6 v.2.2.2.1,i6 v.2.2.2.2]]⟩
def q1fl (C:q1dg) (v:q1ff):Dt q1fj:=(Dt.ret (v.1,v.2.1,v.2.2.1,v.2.2.2.1,v.2.2.2.2))
theorem q1fm C v:q24v (regO (qdk f27) 19) false (an [4,17,105]) q1fg q1fl q1fk C v:=rgI (by kernel_rfl)
abbrev q1fn:Type:=Int×Int×Int×Int
def q1fo (v:q1fn):St:=⟨[(4,.ptr 0 0),(17,.ptr 1 0)],[.cells [i6 v.1,i6 v.2.1],.cells [i6 v.2.2.1,i6 v.2.2.2]]⟩
def q1fp (C:q1dg) (v:q1fj):Dt q1fn:=(Dt.ret (v.2.1,v.2.2.1,(IntKind.wrap .i64 (0 - v.2.2.2.1)),v.2.2.2.2))
theorem q1fq C v:q24v (regO (qdk f27) 20) false (an [4,17]) q1fk q1fp q1fo C v:=rgI (by kernel_rfl)
def q1fr (C:q1dg) (v:q1fn):Dt q1dx:=(Dt.ret ((0:Int),v.2.2.1,v.2.2.2))
theorem q1fs C v:q24v (regO (qdk f27) 21) false (an [4,5]) q1fo q1fr q1dy C v:=rgI (by kernel_rfl)
def q1ft  (d:Nat)  (z:Int×Int×Int×Int):Option (q1dd) :=
 (q1fr (q1dh d) z).eval fun y21 =>
 some (y21.2.1,y21.2.2,y21.1)
def q1fu (d:Nat) (self2:(Bool×Int×Int×Int×Int×Int×Int×Int)→Option q1dd) (x2:Bool×Int×Int×Int×Int×Int×Int×Int):Option q1dd :=
 (q1ex (q1dh d) x2).eval fun y12 =>
 bif y12.2.2.2.2.1 then ((q1ez (q1dh d) y12).eval fun y13 =>
 self2 y13) else ((q1f3 (q1dh d) y12).eval fun y14 =>
 (q1f7 (q1dh d) y14).eval fun y15 =>
 (q1fb (q1dh d) y15).eval fun y16 =>
 bif y16.2.2.2.2.1 then ((q1fd (q1dh d) y16).eval fun y17 =>
 some (y17.2.1,y17.2.2,y17.1)) else ((q1fh (q1dh d) y16).eval fun y18 =>
 (q1fl (q1dh d) y18).eval fun y19 =>
 bif y19.1 then ((q1fp (q1dh d) y19).eval fun y20 =>
 q1ft d  y20) else (q1ft d  y19.2)))
def q1fv  (d:Nat)  (z:Bool×Int×Int×Int×Int×Int×Int):Option (q1dd) :=
 (q1el (q1dh d) z).eval fun y9 =>
 (q1ep (q1dh d) y9).eval fun y10 =>
 (q1et (q1dh d) y10).eval fun y11 =>
 iter (q1fu d ) d y11
def q1fw (d:Nat) (x:q1dc):Option q1dd :=
 (q1dn (q1dh d) (x.1.1,x.1.2.1,x.1.2.2.1,x.2.1.1,x.2.1.2.1)).eval fun y0 =>
 (q1dr (q1dh d) y0).eval fun y1 =>
 (q1dv (q1dh d) y1).eval fun y2 =>
 bif y2.2.1 then ((q1dz (q1dh d) y2).eval fun y3 =>
 some (y3.2.1,y3.2.2,y3.1)) else ((q1e3 (q1dh d) y2).eval fun y4 =>
 (q1e7 (q1dh d) y4).eval fun y5 =>
 (q1eb (q1dh d) y5).eval fun y6 =>
 bif y6.2.1 then ((q1ef (q1dh d) y6).eval fun y7 =>
 (q1eh (q1dh d) y7).eval fun y8 =>
 q1fv d  y8) else (q1fv d  (y6.1,y6.2.2.1,y6.2.2.2.1,y6.2.2.2.2.1,y6.2.2.2.2.2.1,y6.2.2.2.2.2.2.1,y6.2.2.2.2.2.2.2)))
theorem q1fx (d:Nat):COK prog (q1df (q1fw d)):=by
 have hm:prog.follows .mixedOrders=true:=mixed
 have hT:=tys
 have hC0:OrcOK prog (orc (q1di (q1dh d))):=qde (by
  intro S hS
  simp only [q1di,List.mem_cons,List.not_mem_nil,or_false] at hS
  rcases hS with rfl | rfl | rfl | rfl | rfl
  · exact qmp d
  · exact qmy d
  · exact q171 d
  · exact q16s d
  · exact q166 d)
 have hC:OrcOK prog (orcI 42 q114 (orc (q1di (q1dh d)))):=(q115 q119 hC0)
 refine q93 (c:=qdk f27) (fn:=f27) hT (by kernel_rfl) (by kernel_rfl) (by decide) fun x r h w0 φ0 Q hend=>?_
 replace h:q1fw d x=some r:=h
 unfold q1fw at h
 show Run prog w0 φ0 111 (qdk f27) ⟨[(0,.agg [.int .i64 x.1.1,.int .i64 x.1.2.1,.int .i64 x.1.2.2.1]),(1,.agg [.int .i64 x.2.1.1,.int .i64 x.2.1.2.1])],[]⟩ Q
 refine q24b hm hT hC (q1do (q1dh d) (x.1.1,x.1.2.1,x.1.2.2.1,x.2.1.1,x.2.1.2.1)) h fun y0 h=>?_
 refine q8m ?_
 refine q24b hm hT hC (q1ds (q1dh d) y0) h fun y1 h=>?_
 refine q24b hm hT hC (q1dw (q1dh d) y1) h fun y2 h=>?_
 refine q8q (v:=y2.2.1) (by kernel_rfl) h ?_ ?_
 ·
  intro h
  refine q24b hm hT hC (q1e0 (q1dh d) y2) h fun y3 h=>?_
  refine q8l (q8a ?_)
  cases h
  exact (hend _ (by kernel_rfl)).2
 ·
  intro h
  refine q8i (q88 ?_)
  refine q24b hm hT hC (q1e4 (q1dh d) y2) h fun y4 h=>?_
  refine q24b hm hT hC (q1e8 (q1dh d) y4) h fun y5 h=>?_
  refine q8p (r:=r) (F:=q1fv d ) (S:=(fun z=>⟨[(3,.ptr 0 0),(4,.ptr 1 0),(7,.ptr 2 0),(8,.bool z.1)],[.cells [i6 z.2.1,i6 z.2.2.1],.cells [i6 z.2.2.2.1,i6 z.2.2.2.2.1],.cells [i6 z.2.2.2.2.2.1,u6 z.2.2.2.2.2.2]]⟩:q1ai→St)) ?_ ?_
  ·
   intro z h
   unfold q1fv at h
   refine q24b hm hT hC (q1em (q1dh d) z) h fun y9 h=>?_
   refine q24b hm hT hC (q1eq (q1dh d) y9) h fun y10 h=>?_
   refine q24b hm hT hC (q1eu (q1dh d) y10) h fun y11 h=>?_
   refine q8m (q8n ?_)
   refine q8s (G:=iter (q1fu d )) (S:=(fun x2=>⟨[(4,.ptr 0 0),(7,.ptr 1 0),(8,.bool x2.1),(11,u6 x2.2.1),(12,u6 x2.2.2.1),(13,u6 x2.2.2.2.1)],[.cells [i6 x2.2.2.2.2.1,i6 x2.2.2.2.2.2.1],.cells [i6 x2.2.2.2.2.2.2.1,u6 x2.2.2.2.2.2.2.2]]⟩:q1er→St)) (fun _=>rfl) ?_ d _ h
   intro n2 x2 h K2 hn2
   replace h:q1fu d  (iter (q1fu d ) n2) x2=some r:=h
   generalize iter (q1fu d ) n2=self2 at h hn2
   unfold q1fu at h
   refine q8m ?_
   refine q24b hm hT hC (q1ey (q1dh d) x2) h fun y12 h=>?_
   refine q8q (v:=y12.2.2.2.2.1) (by kernel_rfl) h ?_ ?_
   ·
    intro h
    refine q8i (q88 (q8n ?_))
    refine q8r hm hT hC (q1f0 (q1dh d) y12) h ?_
    intro y13 h
    refine q8b ?_
    exact hn2 _ h
   ·
    intro h
    refine q8k (q89 (q89 (q8d (q88 ?_))))
    refine q24b hm hT hC (q1f4 (q1dh d) y12) h fun y14 h=>?_
    refine q24b hm hT hC (q1f8 (q1dh d) y14) h fun y15 h=>?_
    refine q8m ?_
    refine q24b hm hT hC (q1fc (q1dh d) y15) h fun y16 h=>?_
    refine q8q (v:=y16.2.2.2.2.1) (by kernel_rfl) h ?_ ?_
    ·
     intro h
     refine q24b hm hT hC (q1fe (q1dh d) y16) h fun y17 h=>?_
     refine q8l (q8a ?_)
     cases h
     exact (hend _ (by kernel_rfl)).2
    ·
     intro h
     refine q8i (q88 ?_)
     refine q24b hm hT hC (q1fi (q1dh d) y16) h fun y18 h=>?_
     refine q8p (r:=r) (F:=q1ft d ) (S:=(fun z=>⟨[(4,.ptr 0 0),(17,.ptr 1 0)],[.cells [i6 z.1,i6 z.2.1],.cells [i6 z.2.2.1,i6 z.2.2.2]]⟩:q1aq→St)) ?_ ?_
     ·
      intro z h
      unfold q1ft at h
      refine q24b hm hT hC (q1fs (q1dh d) z) h fun y21 h=>?_
      refine q8l ?_
      cases h
      exact (hend _ (by kernel_rfl)).2
     intro hj3
     refine q24b hm hT hC (q1fm (q1dh d) y18) h fun y19 h=>?_
     refine q8q (v:=y19.1) (by kernel_rfl) h ?_ ?_
     ·
      intro h
      refine q8r hm hT hC (q1fq (q1dh d) y19) h ?_
      intro y20 h
      exact hj3 _ h
     ·
      intro h
      refine q8i ?_
      refine qdj (s:=⟨[(4,.ptr 0 0),(17,.ptr 1 0)],[.cells [.int .i64 y19.2.1,.int .i64 y19.2.2.1],.cells [.int .i64 y19.2.2.2.1,.int .i64 y19.2.2.2.2]]⟩) [105] (by kernel_rfl) ?_
      exact hj3 _ h
  intro hj1
  refine q24b hm hT hC (q1ec (q1dh d) y5) h fun y6 h=>?_
  refine q8q (v:=y6.2.1) (by kernel_rfl) h ?_ ?_
  ·
   intro h
   refine q24b hm hT hC (q1eg (q1dh d) y6) h fun y7 h=>?_
   refine q8r hm hT hC (q1ei (q1dh d) y7) h ?_
   intro y8 h
   exact hj1 _ h
  ·
   intro h
   refine q8i ?_
   refine qdj (s:=⟨[(3,.ptr 0 0),(4,.ptr 1 0),(7,.ptr 2 0),(8,.bool y6.1)],[.cells [.int .i64 y6.2.2.1,.int .i64 y6.2.2.2.1],.cells [.int .i64 y6.2.2.2.2.1,.int .i64 y6.2.2.2.2.2.1],.cells [.int .i64 y6.2.2.2.2.2.2.1,.int .u64 y6.2.2.2.2.2.2.2]]⟩) [42] (by kernel_rfl) ?_
   exact hj1 _ h
end Go.Proofs.Ytbjpmdhdoggobaa
