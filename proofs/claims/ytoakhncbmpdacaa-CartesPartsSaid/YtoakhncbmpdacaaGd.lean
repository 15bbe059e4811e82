/- Walks of the references; the orders agree; examples. -/
import Derived.IntWalk
import Derived.Shelf.SlSortCmp.NoneTotal
import Derived.Test.YtoakhncbmpdacaaProg
import Derived.Sort.Statements
import Derived.Shelf.SlSortCmp.Insertion
import Derived.Test.YtoakhncbmpdacaaGc
set_option linter.unusedSimpArgs false
set_option linter.unusedVariables false
namespace Go.Proofs.Ytoakhncbmpdacaa
open Go Go.Tx Go.Pel Go.Proofs.Try
set_option maxRecDepth 100000
set_option maxHeartbeats 0
abbrev qoa:List Pk:=[.row Rii true]
abbrev qob:Type:=Dii×Unit
abbrev qoc:Type:=Int
def qod (r:qoc):LV×List Ob:=(.int .i64 r,[])
def qoe (F:qob→Option qoc):Go.Tx.Spec:=⟨73,qoa,qoc,F,qod⟩
def qof (x:qob):Bool:=i64B x.1.1&&i64B x.1.2.1
def qog (d:Nat) (x:qob):Option qoc:=bif qof x then some (qeg x.1.1 x.1.2.1) else none
theorem qoh (d:Nat) (x:qob) (h:qof x=true):qog d x=some (qeg x.1.1 x.1.2.1):=by unfold qog;rw [h];rfl
theorem qoi (d:Nat):COK prog (qoe (qog d)):=by
 refine qj0 (qj1 (fn:=f73) (by kernel_rfl) (by kernel_rfl) (by kernel_rfl)) fun x r hx w φ vs hφ hv=>?_
 have hx:qog d x=some r:=hx
 unfold qog at hx
 obtain ⟨hc,rfl⟩:=qkg hx
 have hv:VRs (Emb.fro φ) [.agg [.int .i64 x.1.1,.int .i64 x.1.2.1]] vs:=hv
 obtain ⟨v0,rfl,q0⟩:=vrs1 hv
 have r0:=qiu q0;subst r0
 unfold qof at hc
 simp only [Bool.and_eq_true] at hc
 obtain ⟨h1,h2⟩:=hc
 refine (qlk x.1.1 x.1.2.1 w (qkd h1) (qkd h2)).mono ?_
 rintro e w' ⟨rfl,y,rfl⟩
 exact qiy hφ (.int _ _) y
abbrev qps:List Pk:=[.row Riii true,.row Riii true,.row Rii true]
abbrev qpt:Type:=Diii×Diii×Dii×Unit
abbrev qpu:Type:=Bool×Int
def qpv (r:qpu):LV×List Ob:=(.tup [.bool r.1,.int .i64 r.2],[])
def qpw (F:qpt→Option qpu):Go.Tx.Spec:=⟨46,qps,qpu,F,qpv⟩
def qpx (x:qpt):Bool:=i64B x.2.2.1.1&&i64B x.2.2.1.2.1
def qpy (d:Nat) (x:qpt):Option qpu:=bif qpx x then some ((qmd (ofP x.1) (ofP x.2.1) x.2.2.1.1 x.2.2.1.2.1).1,(qmd (ofP x.1) (ofP x.2.1) x.2.2.1.1 x.2.2.1.2.1).2) else none
theorem qpz (d:Nat) (x:qpt) (h:qpx x=true):qpy d x=some ((qmd (ofP x.1) (ofP x.2.1) x.2.2.1.1 x.2.2.1.2.1).1,(qmd (ofP x.1) (ofP x.2.1) x.2.2.1.1 x.2.2.1.2.1).2):=by unfold qpy;rw [h];rfl
theorem qq0 (d:Nat):COK prog (qpw (qpy d)):=by
 refine qj0 (qj1 (fn:=f46) (by kernel_rfl) (by kernel_rfl) (by kernel_rfl)) fun x r hx w φ vs hφ hv=>?_
 have hx:qpy d x=some r:=hx
 unfold qpy at hx
 obtain ⟨hc,rfl⟩:=qkg hx
 have hv:VRs (Emb.fro φ) [.agg [.int .i64 x.1.1,.int .i64 x.1.2.1,.int .i64 x.1.2.2.1],.agg [.int .i64 x.2.1.1,.int .i64 x.2.1.2.1,.int .i64 x.2.1.2.2.1],.agg [.int .i64 x.2.2.1.1,.int .i64 x.2.2.1.2.1]] vs:=hv
 obtain ⟨v0,vs,rfl,q0,hv⟩:=VRs.uncons hv
 obtain ⟨v1,vs,rfl,q1,hv⟩:=VRs.uncons hv
 obtain ⟨v2,rfl,q2⟩:=vrs1 hv
 have r0:=qit (p:=x.1) q0;subst r0
 have r1:=qit (p:=x.2.1) q1;subst r1
 have r2:=qiu q2;subst r2
 unfold qpx at hc
 simp only [Bool.and_eq_true] at hc
 obtain ⟨h1,h2⟩:=hc
 refine (qn0 (ofP x.1) (ofP x.2.1) x.2.2.1.1 x.2.2.1.2.1 w (qkd h1) (qkd h2)).mono ?_
 rintro e w' ⟨rfl,y,rfl⟩
 exact qiy hφ (VR.tupL (VRs.cons (.bool _) (VRs.cons (.int _ _) VRs.nil))) y
abbrev qq1:List Pk:=[.row qks true]
abbrev qq2:Type:=qkt×Unit
abbrev qq3:Type:=Bool
def qq4 (r:qq3):LV×List Ob:=(.bool r,[])
def qq5 (F:qq2→Option qq3):Go.Tx.Spec:=⟨9,qq1,qq3,F,qq4⟩
def qq6 (x:qq2):Bool:=true
def qq7 (d:Nat) (x:qq2):Option qq3:=bif qq6 x then some (great (ptsL x.1.1).length) else none
theorem qq8 (d:Nat) (x:qq2) (h:qq6 x=true):qq7 d x=some (great (ptsL x.1.1).length):=by unfold qq7;rw [h];rfl
theorem qq9 (d:Nat):COK prog (qq5 (qq7 d)):=by
 refine qj0 (qj1 (fn:=f9) (by kernel_rfl) (by kernel_rfl) (by kernel_rfl)) fun x r hx w φ vs hφ hv=>?_
 have hx:qq7 d x=some r:=hx
 unfold qq7 at hx
 obtain ⟨hc,rfl⟩:=qkg hx
 have hv:VRs (Emb.fro φ) [.agg [.fz RP x.1.1]] vs:=hv
 obtain ⟨v0,rfl,q0⟩:=vrs1 hv
 obtain ⟨A0,c0,rfl,s0,z0⟩:=qkb hφ q0
 refine (qnf A0 (ptsL x.1.1).length c0 w).mono ?_
 rintro e w' ⟨rfl,y,rfl⟩
 exact qiy hφ (.bool _) y
abbrev qqa:List Pk:=[.row qks true]
abbrev qqb:Type:=qkt×Unit
abbrev qqc:Type:=Int
def qqd (r:qqc):LV×List Ob:=(.int .i64 r,[])
def qqe (F:qqb→Option qqc):Go.Tx.Spec:=⟨72,qqa,qqc,F,qqd⟩
def qqf (x:qqb):Bool:=true
def qqg (d:Nat) (x:qqb):Option qqc:=bif qqf x then some (qhk (ptsL x.1.1)) else none
theorem qqh (d:Nat) (x:qqb) (h:qqf x=true):qqg d x=some (qhk (ptsL x.1.1)):=by unfold qqg;rw [h];rfl
theorem qqi (d:Nat):COK prog (qqe (qqg d)):=by
 refine qj0 (qj1 (fn:=f72) (by kernel_rfl) (by kernel_rfl) (by kernel_rfl)) fun x r hx w φ vs hφ hv=>?_
 have hx:qqg d x=some r:=hx
 unfold qqg at hx
 obtain ⟨hc,rfl⟩:=qkg hx
 have hv:VRs (Emb.fro φ) [.agg [.fz RP x.1.1]] vs:=hv
 obtain ⟨v0,rfl,q0⟩:=vrs1 hv
 obtain ⟨A0,c0,rfl,s0,z0⟩:=qkb hφ q0
 refine (qmw A0 c0 (ptsL x.1.1) w s0).mono ?_
 rintro e w' ⟨rfl,y,rfl⟩
 exact qiy hφ (.int _ _) y
end Go.Proofs.Ytoakhncbmpdacaa

namespace Go.Proofs.Ytoakhncbmpdacaa
open Go.RowKit Go.Pel
def fieldPlace (l:List Pt) (id:Int):Int×Int:=if qhk l≠0 then (0,qhk l) else if hasB l id then ((lowB l id:Int),0) else (0,6)
end Go.Proofs.Ytoakhncbmpdacaa

namespace Go.Proofs.Ytoakhncbmpdacaa
open Go.RowKit Go.Pel Go.IntWalk
end Go.Proofs.Ytoakhncbmpdacaa

namespace Go.Proofs.Ytoakhncbmpdacaa
open Go.RowKit Go.Pel Go.IntWalk
end Go.Proofs.Ytoakhncbmpdacaa

namespace Go.Proofs.Ytoakhncbmpdacaa
open Go.RowKit Go.Pel Go.IntWalk
end Go.Proofs.Ytoakhncbmpdacaa

namespace Go.Proofs
open Go.Shelf
end Go.Proofs

namespace Go.Pel
open Go.Sort Go.Proofs
def cfP (n d:Int) (p q:Pt):Int:=if p.id=q.id then 0 else if qlx p q n d then -1 else 1
def cfL (n d:Int) (l:List Pt) (x y:{p:Pt // p∈l}):Int:=cfP n d x.1 y.1
def qrz (n d:Int) (l:List Pt):List Pt:=((l.attach.mergeSort fun x y=>!(ltOf (cfL n d l)) y x)).map Subtype.val
end Go.Pel

namespace Go.Proofs.Ytoakhncbmpdacaa
open Go.RowKit Go.Pel
end Go.Proofs.Ytoakhncbmpdacaa

namespace Go
open RowKit Go.Sort Go.Proofs Go.Shelf
end Go
namespace Go.Proofs.Ytoakhncbmpdacaa
open Go.RowKit Go.Pel Go.Sort Go.Shelf
end Go.Proofs.Ytoakhncbmpdacaa

namespace Go.Pel
def qsb (l:List Pt) (n d:Int):List Pt×Int:=if qhk l≠0 then ([],qhk l) else if qeg n d≠0 then ([],qeg n d) else (qrz n d l,0)
end Go.Pel
namespace Go.Proofs.Ytoakhncbmpdacaa
open Go.RowKit Go.Pel
end Go.Proofs.Ytoakhncbmpdacaa

namespace Go.Pel
end Go.Pel
namespace Go.Proofs.Ytoakhncbmpdacaa
open Go.RowKit Go.Pel
end Go.Proofs.Ytoakhncbmpdacaa

namespace Go.Pel
open Go
end Go.Pel
namespace Go.Proofs.Ytoakhncbmpdacaa
open Go.RowKit Go.Pel
end Go.Proofs.Ytoakhncbmpdacaa

namespace Go.Pel
open Go Go.RowKit
end Go.Pel
namespace Go.Proofs.Ytoakhncbmpdacaa
open Go.RowKit Go.Pel
end Go.Proofs.Ytoakhncbmpdacaa

namespace Go.Pel
open Go Go.RowKit
def qsv (l:List Pt) (n d:Int):Int:=if qhk l≠0 then qhk l else qeg n d
end Go.Pel
namespace Go.Proofs.Ytoakhncbmpdacaa
open Go.RowKit Go.Pel
set_option maxRecDepth 10000 in
set_option maxHeartbeats 2000000 in
theorem qsx (A:Option Addr) (c:Nat) (l:List Pt) (n d:Int) (w:World) (hn:-9223372036854775808≤n∧n≤9223372036854775807) (hd:-9223372036854775808≤d∧d≤9223372036854775807) (hs:Sl w 3 A l.length c (vp l)) (hl:l.length≤1000000) :
    Calls Try.prog 47 #[.agg #[.slice A l.length c],.agg #[.int .i64 n,.int .i64 d]] w fun e w'=>e=.returned (.int .i64 (qsv l n d))∧∃ x,w'=ext w x:=by
  have q:=Lib.hid (fun W hb=>qnd A c l W (hs.bel (w':=W) hb))
  have q2:=Lib.hid (fun W=>qll n d W hn hd)
  unfold qsv
  generalize qhk l=v at q ⊢
  by_cases h:v=0
  · subst h
    rw [if_neg (by decide)]
    clear hn hd
    go_enter Try.func47,Try.ntmps47
    go_wp2_with (first | (go_at_call 67;refine (q.out _ (by (try simp only [qcy]);repeat (first | exact Bel.refl _ | assumption | refine qd7 ?_ _ | refine qd8 ?_ _ | refine Bel.ext ?_ _ | refine Bel.alloc ?_ _ | refine Bel.drewN ?_ _))).mono ?_;rintro e _ ⟨rfl,nx,rfl⟩) | (go_at_call 68;refine (q2.out _).mono ?_;rintro e _ ⟨rfl,nx,rfl⟩))
    (go_ret;exact ⟨qle (by rfl),ext_of (by (try simp only [qcy]);repeat (first | exact Bel.refl _ | assumption | refine qd7 ?_ _ | refine qd8 ?_ _ | refine Bel.ext ?_ _ | refine Bel.alloc ?_ _ | refine Bel.drewN ?_ _))⟩)
  · rw [if_pos h]
    have h':(v != 0)=true:=by simpa using h
    clear h hn hd
    go_enter Try.func47,Try.ntmps47
    go_wp2_with (first | (go_at_call 67;refine (q.out _ (by (try simp only [qcy]);repeat (first | exact Bel.refl _ | assumption | refine qd7 ?_ _ | refine qd8 ?_ _ | refine Bel.ext ?_ _ | refine Bel.alloc ?_ _ | refine Bel.drewN ?_ _))).mono ?_;rintro e _ ⟨rfl,nx,rfl⟩) | (go_at_call 68;refine (q2.out _).mono ?_;rintro e _ ⟨rfl,nx,rfl⟩))
    (go_ret;exact ⟨qle (by rfl),ext_of (by (try simp only [qcy]);repeat (first | exact Bel.refl _ | assumption | refine qd7 ?_ _ | refine qd8 ?_ _ | refine Bel.ext ?_ _ | refine Bel.alloc ?_ _ | refine Bel.drewN ?_ _))⟩)
end Go.Proofs.Ytoakhncbmpdacaa

namespace Go.Proofs.Ytoakhncbmpdacaa
open Go.RowKit Go.Pel
end Go.Proofs.Ytoakhncbmpdacaa

namespace Go.Pel
open Go Go.RowKit
end Go.Pel
namespace Go.Proofs.Ytoakhncbmpdacaa
open Go.RowKit Go.Pel
end Go.Proofs.Ytoakhncbmpdacaa

namespace Go.Tx
open Go Go.Sort Go.RowKit Go.Proofs Go.Shelf
section
variable {τ:Row} (F:den τ×den τ×Unit→Option Int)
end
section
variable {P:Program} {ρ:Ren}
end
end Go.Tx

namespace Go.Proofs.Ytoakhncbmpdacaa
open Go Go.Tx Go.RowKit Go.Pel
end Go.Proofs.Ytoakhncbmpdacaa

namespace Go.Pel
open Go Go.Tx
theorem qtu (p q:Pt) (n d:Int):qlx p q n d=true↔(q.a*d+q.b*n<p.a*d+p.b*n)∨(q.a*d+q.b*n=p.a*d+p.b*n∧(q.b<p.b∨(q.b=p.b∧p.id<q.id))):=by
  have e:farD p q n d=(p.a*d+p.b*n) - (q.a*d+q.b*n):=by unfold farD;rw [Int.sub_mul,Int.sub_mul];omega
  unfold qlx
  rw [e]
  generalize p.a*d+p.b*n=P
  generalize q.a*d+q.b*n=Q
  repeat' split
  all_goals simp only [decide_eq_true_eq]
  all_goals omega
theorem qtx {p q:Pt} {n d:Int} (h:qlx p q n d=false):¬ ((q.a*d+q.b*n<p.a*d+p.b*n)∨(q.a*d+q.b*n=p.a*d+p.b*n∧(q.b<p.b∨(q.b=p.b∧p.id<q.id)))):=by
  intro k;rw [(qtu p q n d).2 k] at h;cases h
end Go.Pel

namespace Go.Proofs.Ytoakhncbmpdacaa
open Go Go.Tx Go.Pel Go.Proofs.Try
set_option maxRecDepth 100000
set_option maxHeartbeats 0
abbrev quj:List Pk:=[.row qks true,.row Rii true]
abbrev quk:Type:=qkt×Dii×Unit
abbrev qul:Type:=Int
def qum (r:qul):LV×List Ob:=(.int .i64 r,[])
def qun (F:quk→Option qul):Go.Tx.Spec:=⟨47,quj,qul,F,qum⟩
def qup (x:quk):Bool:=i64B x.2.1.1&&i64B x.2.1.2.1&&decide ((ptsL x.1.1).length≤1000000)
def quq (d:Nat) (x:quk):Option qul:=bif qup x then some (qsv (ptsL x.1.1) x.2.1.1 x.2.1.2.1) else none
theorem qur (d:Nat) (x:quk) (h:qup x=true):quq d x=some (qsv (ptsL x.1.1) x.2.1.1 x.2.1.2.1):=by unfold quq;rw [h];rfl
theorem qus (d:Nat):COK prog (qun (quq d)):=by
 refine qj0 (qj1 (fn:=f47) (by kernel_rfl) (by kernel_rfl) (by kernel_rfl)) fun x r hx w φ vs hφ hv=>?_
 have hx:quq d x=some r:=hx
 unfold quq at hx
 obtain ⟨hc,rfl⟩:=qkg hx
 have hv:VRs (Emb.fro φ) [.agg [.fz RP x.1.1],.agg [.int .i64 x.2.1.1,.int .i64 x.2.1.2.1]] vs:=hv
 obtain ⟨v0,vs,rfl,q0,hv⟩:=VRs.uncons hv
 obtain ⟨v1,rfl,q1⟩:=vrs1 hv
 obtain ⟨A0,c0,rfl,s0,z0⟩:=qkb hφ q0
 have r1:=qiu q1;subst r1
 unfold qup at hc
 simp only [Bool.and_eq_true] at hc
 obtain ⟨⟨h1,h2⟩,h3⟩:=hc
 replace h3:=of_decide_eq_true h3
 refine (qsx A0 c0 (ptsL x.1.1) x.2.1.1 x.2.1.2.1 w (qkd h1) (qkd h2) s0 h3).mono ?_
 rintro e w' ⟨rfl,y,rfl⟩
 exact qiy hφ (.int _ _) y
end Go.Proofs.Ytoakhncbmpdacaa

namespace Go.Proofs.Ytoakhncbmpdacaa
open Go Go.Tx Go.Proofs.Try
set_option maxRecDepth 100000
set_option maxHeartbeats 0
abbrev qv2:List Pk:=[.row qkv true]
abbrev qv3:Type:=qkw×Unit
abbrev qv4:Type:=List Di×Bool
def qv5 (r:qv4):LV×List Ob:=(.tup [.rs 0,.bool r.2],[.rows Ri r.1])
def qv6 (F:qv3→Option qv4):Go.Tx.Spec:=⟨49,qv2,qv4,F,qv5⟩
abbrev qv7:Type:=Unit
def qv8 (_d:Nat):qv7:=()
def qv9 (C:qv7):List Go.Tx.Spec:=[]
abbrev qva:Type:=Int×List Diii
def qvb (v:qva):St:=⟨[(0,.agg [i6 v.1,.fz Riii v.2])],[]⟩
abbrev qvc:Type:=Int×List Diii
def qvd (v:qvc):St:=⟨[(1,.ptr 0 0)],[.cells [i6 v.1,.fz Riii v.2]]⟩
def qve (C:qv7) (v:qva):Dt qvc:=(Dt.ret (v.1,v.2))
theorem qvf (C:qv7) (v:qva):treg (litT 39 tysT) (orc (qv9 C)) 62 (regO (qea f49) 0) false [(1,(.box [.any,.val Riii]))] (qvb v) some=(qve C v).eval fun y=>some (qvd y):=by kernel_rfl
abbrev qvg:Type:=Int×List Diii×List Di×List Di
def qvh (v:qvg):St:=⟨[(1,.ptr 0 0),(4,.rs 1),(5,.rs 2)],[.cells [i6 v.1,.fz Riii v.2.1],.rows Ri v.2.2.1,.rows Ri v.2.2.2]⟩
def qvi (C:qv7) (v:qvc):Dt qvg:=(Dt.ret (v.1,v.2,([]:List Di),([]:List Di)))
theorem qvj (C:qv7) (v:qvc):treg (litT 39 tysT) (orc (qv9 C)) 62 (regO (qea f49) 1) false [(1,(.box [.any,.val Riii])),(4,(.own Ri)),(5,(.own Ri))] (qvd v) some=(qvi C v).eval fun y=>some (qvh y):=by kernel_rfl
abbrev qvk:Type:=Int×List Diii×List Di×List Di×List Db
def qvl (v:qvk):St:=⟨[(1,.ptr 0 0),(4,.rs 1),(5,.rs 2),(6,.rs 3)],[.cells [i6 v.1,.fz Riii v.2.1],.rows Ri v.2.2.1,.rows Ri v.2.2.2.1,.rows Rb v.2.2.2.2]⟩
def qvm (C:qv7) (v:qvg):Dt qvk:=(Dt.ite (mkB (List.length v.2.1:Int) (List.length v.2.1:Int)) (Dt.ret (v.1,v.2.1,v.2.2.1,v.2.2.2,(List.replicate ((List.length v.2.1:Int)).toNat zb))) Dt.fail)
theorem qvn (C:qv7) (v:qvg):treg (litT 39 tysT) (orc (qv9 C)) 62 (regO (qea f49) 2) false [(1,(.box [.any,.val Riii])),(4,(.own Ri)),(5,(.own Ri)),(6,(.own Rb))] (qvh v) some=(qvm C v).eval fun y=>some (qvl y):=by kernel_rfl
abbrev qvo:Type:=Int×Int×List Diii×List Di×List Di×List Db
def qvp (v:qvo):St:=⟨[(1,.ptr 0 0),(4,.rs 1),(5,.rs 2),(6,.rs 3),(7,i6 v.1)],[.cells [i6 v.2.1,.fz Riii v.2.2.1],.rows Ri v.2.2.2.1,.rows Ri v.2.2.2.2.1,.rows Rb v.2.2.2.2.2]⟩
def qvq (C:qv7) (v:qvk):Dt qvo:=(Dt.ret (v.1,v.1,v.2.1,v.2.2.1,v.2.2.2.1,v.2.2.2.2))
theorem qvr (C:qv7) (v:qvk):treg (litT 39 tysT) (orc (qv9 C)) 62 (regO (qea f49) 3) false [(1,(.box [.any,.val Riii])),(4,(.own Ri)),(5,(.own Ri)),(6,(.own Rb)),(7,.any)] (qvl v) some=(qvq C v).eval fun y=>some (qvp y):=by kernel_rfl
abbrev qvs:Type:=Int×Bool×Int×List Diii×List Di×List Di×List Db
def qvt (v:qvs):St:=⟨[(1,.ptr 0 0),(4,.rs 1),(5,.rs 2),(6,.rs 3),(7,i6 v.1),(20,.bool v.2.1)],[.cells [i6 v.2.2.1,.fz Riii v.2.2.2.1],.rows Ri v.2.2.2.2.1,.rows Ri v.2.2.2.2.2.1,.rows Rb v.2.2.2.2.2.2]⟩
def qvu (C:qv7) (v:qvo):Dt qvs:=(Dt.ite (decide (v.1≥(0:Int))) (Dt.ret (v.1,true,v.2.1,v.2.2.1,v.2.2.2.1,v.2.2.2.2.1,v.2.2.2.2.2)) (Dt.ret (v.1,(decide ((List.length v.2.2.2.2.1:Int) > (0:Int))),v.2.1,v.2.2.1,v.2.2.2.1,v.2.2.2.2.1,v.2.2.2.2.2)))
theorem qvv (C:qv7) (v:qvo):treg (litT 39 tysT) (orc (qv9 C)) 62 (regO (qea f49) 4) false [(1,(.box [.any,.val Riii])),(4,(.own Ri)),(5,(.own Ri)),(6,(.own Rb)),(7,.any),(20,.any)] (qvp v) some=(qvu C v).eval fun y=>some (qvt y):=by kernel_rfl
abbrev qvw:Type:=Int×Bool×Int×List Diii×List Di×List Di×List Db
def qvx (v:qvw):St:=⟨[(1,.ptr 0 0),(4,.rs 1),(5,.rs 2),(6,.rs 3),(7,i6 v.1),(22,.bool v.2.1)],[.cells [i6 v.2.2.1,.fz Riii v.2.2.2.1],.rows Ri v.2.2.2.2.1,.rows Ri v.2.2.2.2.2.1,.rows Rb v.2.2.2.2.2.2]⟩
def qvy (C:qv7) (v:qvo):Dt qvw:=(Dt.ret (v.1,(decide (v.1≥(0:Int))),v.2.1,v.2.2.1,v.2.2.2.1,v.2.2.2.2.1,v.2.2.2.2.2))
theorem qvz (C:qv7) (v:qvo):treg (litT 39 tysT) (orc (qv9 C)) 62 (regO (qea f49) 5) false [(1,(.box [.any,.val Riii])),(4,(.own Ri)),(5,(.own Ri)),(6,(.own Rb)),(7,.any),(22,.any)] (qvp v) some=(qvy C v).eval fun y=>some (qvx y):=by kernel_rfl
abbrev qw0:Type:=Int×Bool×Int×List Diii×List Di×List Di×List Db
def qw1 (v:qw0):St:=⟨[(1,.ptr 0 0),(4,.rs 1),(5,.rs 2),(6,.rs 3),(7,i6 v.1),(32,.bool v.2.1)],[.cells [i6 v.2.2.1,.fz Riii v.2.2.2.1],.rows Ri v.2.2.2.2.1,.rows Ri v.2.2.2.2.2.1,.rows Rb v.2.2.2.2.2.2]⟩
def qw2 (C:qv7) (v:qvw):Dt qw0:=(Dt.ite (inB v.1 (List.length v.2.2.2.2.2.2)) (Dt.ret (v.1,(elt zb v.2.2.2.2.2.2 (v.1).toNat).1,v.2.2.1,v.2.2.2.1,v.2.2.2.2.1,v.2.2.2.2.2.1,v.2.2.2.2.2.2)) Dt.fail)
theorem qw3 (C:qv7) (v:qvw):treg (litT 39 tysT) (orc (qv9 C)) 62 (regO (qea f49) 7) false [(1,(.box [.any,.val Riii])),(4,(.own Ri)),(5,(.own Ri)),(6,(.own Rb)),(7,.any),(32,.any)] (qvx v) some=(qw2 C v).eval fun y=>some (qw1 y):=by kernel_rfl
abbrev qw4:Type:=Bool×List Di
def qw5 (v:qw4):St:=⟨[(2,.rs 0),(3,.bool v.1)],[.rows Ri v.2]⟩
def qw6 (C:qv7) (v:qw0):Dt qw4:=(Dt.ret (false,([]:List Di)))
theorem qw7 (C:qv7) (v:qw0):treg (litT 39 tysT) (orc (qv9 C)) 62 (regO (qea f49) 8) false [(2,(.own Ri)),(3,.any)] (qw1 v) some=(qw6 C v).eval fun y=>some (qw5 y):=by kernel_rfl
def qw8 (C:qv7) (v:qw0):Dt qvo:=(Dt.ite (apB (List.length v.2.2.2.2.2.1) (List.length ([(v.1,())]:List Di))) (Dt.ite (inB v.1 (List.length v.2.2.2.2.2.2)) (Dt.ret (v.1,v.2.2.1,v.2.2.2.1,v.2.2.2.2.1,(v.2.2.2.2.2.1++([(v.1,())]:List Di)),(List.set v.2.2.2.2.2.2 (v.1).toNat (true,())))) Dt.fail) Dt.fail)
theorem qw9 (C:qv7) (v:qw0):treg (litT 39 tysT) (orc (qv9 C)) 62 (regO (qea f49) 9) false [(1,(.box [.any,.val Riii])),(4,(.own Ri)),(5,(.own Ri)),(6,(.own Rb)),(7,.any)] (qw1 v) some=(qw8 C v).eval fun y=>some (qvp y):=by kernel_rfl
def qwa (C:qv7) (v:qvo):Dt qvo:=(Dt.ite (inB v.1 (List.length v.2.2.1)) (Dt.ret ((elt ziii v.2.2.1 (v.1).toNat).2.1,v.2.1,v.2.2.1,v.2.2.2.1,v.2.2.2.2.1,v.2.2.2.2.2)) Dt.fail)
theorem qwb (C:qv7) (v:qvo):treg (litT 39 tysT) (orc (qv9 C)) 62 (regO (qea f49) 6) false [(1,(.box [.any,.val Riii])),(4,(.own Ri)),(5,(.own Ri)),(6,(.own Rb)),(7,.any)] (qvp v) some=(qwa C v).eval fun y=>some (qvp y):=by kernel_rfl
def qwc (C:qv7) (v:qvw):Dt qvo:=(Dt.ite (inB (IntKind.wrap .i64 ((List.length v.2.2.2.2.2.1:Int) - (1:Int))) (List.length v.2.2.2.2.2.1)) (Dt.ite (decide (0≤(IntKind.wrap .i64 ((List.length v.2.2.2.2.2.1:Int) - (1:Int))))&&decide ((IntKind.wrap .i64 ((List.length v.2.2.2.2.2.1:Int) - (1:Int)))≤(List.length v.2.2.2.2.2.1:Int))) (Dt.ret ((elt zi v.2.2.2.2.2.1 ((IntKind.wrap .i64 ((List.length v.2.2.2.2.2.1:Int) - (1:Int)))).toNat).1,v.2.2.1,v.2.2.2.1,v.2.2.2.2.1,(List.take ((IntKind.wrap .i64 ((List.length v.2.2.2.2.2.1:Int) - (1:Int)))).toNat v.2.2.2.2.2.1),v.2.2.2.2.2.2)) Dt.fail) Dt.fail)
theorem qwd (C:qv7) (v:qvw):treg (litT 39 tysT) (orc (qv9 C)) 62 (regO (qea f49) 10) true [(1,(.box [.any,.val Riii])),(4,(.own Ri)),(5,(.own Ri)),(6,(.own Rb)),(7,.any)] (qvx v) some=(qwc C v).eval fun y=>some (qvp y):=by kernel_rfl
def qwe (C:qv7) (v:qvo):Dt qvo:=(Dt.ite (apB (List.length v.2.2.2.1) (List.length ([(v.1,())]:List Di))) (Dt.ret (v.1,v.2.1,v.2.2.1,(v.2.2.2.1++([(v.1,())]:List Di)),v.2.2.2.2.1,v.2.2.2.2.2)) Dt.fail)
theorem qwf (C:qv7) (v:qvo):treg (litT 39 tysT) (orc (qv9 C)) 62 (regO (qea f49) 11) false [(1,(.box [.any,.val Riii])),(4,(.own Ri)),(5,(.own Ri)),(6,(.own Rb)),(7,.any)] (qvp v) some=(qwe C v).eval fun y=>some (qvp y):=by kernel_rfl
def qwg (C:qv7) (v:qvo):Dt qvo:=(Dt.ite (inB v.1 (List.length v.2.2.1)) (Dt.ret ((elt ziii v.2.2.1 (v.1).toNat).2.2.1,v.2.1,v.2.2.1,v.2.2.2.1,v.2.2.2.2.1,v.2.2.2.2.2)) Dt.fail)
theorem qwh (C:qv7) (v:qvo):treg (litT 39 tysT) (orc (qv9 C)) 62 (regO (qea f49) 12) false [(1,(.box [.any,.val Riii])),(4,(.own Ri)),(5,(.own Ri)),(6,(.own Rb)),(7,.any)] (qvp v) some=(qwg C v).eval fun y=>some (qvp y):=by kernel_rfl
def qwi (d:Nat) (self1:(Int×Int×List Diii×List Di×List Di×List Db)→Option qv4) (self2:(Int×Int×List Diii×List Di×List Di×List Db)→Option qv4) (x2:Int×Int×List Diii×List Di×List Di×List Db):Option qv4 :=
 (qvy (qv8 d) x2).eval fun y5 =>
 bif y5.2.1 then ((qw2 (qv8 d) y5).eval fun y7 =>
 bif y7.2.1 then ((qw6 (qv8 d) y7).eval fun y8 =>
 some (y8.2,y8.1)) else ((qw8 (qv8 d) y7).eval fun y9 =>
 (qwa (qv8 d) y9).eval fun y6 =>
 self2 y6)) else ((qwc (qv8 d) y5).eval fun y10 =>
 (qwe (qv8 d) y10).eval fun y11 =>
 (qwg (qv8 d) y11).eval fun y12 =>
 self1 y12)
def qwj (C:qv7) (v:qvs):Dt qw4:=(Dt.ret (true,v.2.2.2.2.1))
theorem qwk (C:qv7) (v:qvs):treg (litT 39 tysT) (orc (qv9 C)) 62 (regO (qea f49) 13) false [(2,(.own Ri)),(3,.any)] (qvt v) some=(qwj C v).eval fun y=>some (qw5 y):=by kernel_rfl
def qwl (d:Nat) (self1:(Int×Int×List Diii×List Di×List Di×List Db)→Option qv4) (x1:Int×Int×List Diii×List Di×List Di×List Db):Option qv4 :=
 (qvu (qv8 d) x1).eval fun y4 =>
 bif y4.2.1 then (iter (qwi d self1) d (y4.1,y4.2.2.1,y4.2.2.2.1,y4.2.2.2.2.1,y4.2.2.2.2.2.1,y4.2.2.2.2.2.2)) else ((qwj (qv8 d) y4).eval fun y13 =>
 some (y13.2,y13.1))
def qwm (d:Nat) (x:qv3):Option qv4 :=
 (qve (qv8 d) (x.1.1,x.1.2.1)).eval fun y0 =>
 (qvi (qv8 d) y0).eval fun y1 =>
 (qvm (qv8 d) y1).eval fun y2 =>
 (qvq (qv8 d) y2).eval fun y3 =>
 iter (qwl d ) d y3
theorem qwn (d:Nat):COK prog (qv6 (qwm d)):=by
 have hm:prog.follows .mixedOrders=true:=mixed
 have hT:=q1y tys 39
 have hC0:OrcOK prog (orc (qv9 (qv8 d))):=qe4 (by
  intro S hS
  simp only [qv9,List.mem_cons,List.not_mem_nil,or_false] at hS
  all_goals first | cases hS | exact hS.elim)
 have hC:OrcOK prog (orc (qv9 (qv8 d))):=hC0
 refine q9t (c:=qea f49) (fn:=f49) hT (by kernel_rfl) (by kernel_rfl) (by decide) fun x r h w0 φ0 Q hend=>?_
 replace h:qwm d x=some r:=h
 unfold qwm at h
 show Run prog w0 φ0 62 (qea f49) ⟨[(0,.agg [.int .i64 x.1.1,.fz Riii x.1.2.1])],[]⟩ Q
 refine q344 hm hT hC (qvf (qv8 d) (x.1.1,x.1.2.1)) h fun y0 h=>?_
 refine q344 hm hT hC (qvj (qv8 d) y0) h fun y1 h=>?_
 refine q344 hm hT hC (qvn (qv8 d) y1) h fun y2 h=>?_
 refine q9d ?_
 refine q344 hm hT hC (qvr (qv8 d) y2) h fun y3 h=>?_
 refine q9e ?_
 refine q9j (G:=iter (qwl d )) (S:=(fun x1=>⟨[(1,.ptr 0 0),(4,.rs 1),(5,.rs 2),(6,.rs 3),(7,i6 x1.1)],[.cells [i6 x1.2.1,.fz Riii x1.2.2.1],.rows Ri x1.2.2.2.1,.rows Ri x1.2.2.2.2.1,.rows Rb x1.2.2.2.2.2]⟩:Int×Int×List Diii×List Di×List Di×List Db→St)) (fun _=>rfl) ?_ d _ h
 intro n1 x1 h K1 hn1
 replace h:qwl d  (iter (qwl d ) n1) x1=some r:=h
 generalize iter (qwl d ) n1=self1 at h hn1
 unfold qwl at h
 refine q9d ?_
 refine q344 hm hT hC (qvv (qv8 d) x1) h fun y4 h=>?_
 refine q9h (v:=y4.2.1) (by kernel_rfl) h ?_ ?_
 ·
  intro h
  refine q99 (q8z (q9e (q9d (q9e ?_))))
  refine qee (s:=⟨[(1,.ptr 0 0),(4,.rs 1),(5,.rs 2),(6,.rs 3),(7,.int .i64 y4.1)],[.cells [.int .i64 y4.2.2.1,.fz Riii y4.2.2.2.1],.rows Ri y4.2.2.2.2.1,.rows Ri y4.2.2.2.2.2.1,.rows Rb y4.2.2.2.2.2.2]⟩) [20] (by kernel_rfl) ?_
  refine q9j (G:=iter (qwi d self1)) (S:=(fun x2=>⟨[(1,.ptr 0 0),(4,.rs 1),(5,.rs 2),(6,.rs 3),(7,i6 x2.1)],[.cells [i6 x2.2.1,.fz Riii x2.2.2.1],.rows Ri x2.2.2.2.1,.rows Ri x2.2.2.2.2.1,.rows Rb x2.2.2.2.2.2]⟩:Int×Int×List Diii×List Di×List Di×List Db→St)) (fun _=>rfl) ?_ d _ h
  intro n2 x2 h K2 hn2
  replace h:qwi d self1 (iter (qwi d self1) n2) x2=some r:=h
  generalize iter (qwi d self1) n2=self2 at h hn2
  unfold qwi at h
  refine q9d ?_
  refine q344 hm hT hC (qvz (qv8 d) x2) h fun y5 h=>?_
  refine q9h (v:=y5.2.1) (by kernel_rfl) h ?_ ?_
  ·
   intro h
   refine q99 (q8z (q9d (q9e (q9d ?_))))
   refine q344 hm hT hC (qw3 (qv8 d) y5) h fun y7 h=>?_
   refine q9h (v:=y7.2.1) (by kernel_rfl) h ?_ ?_
   ·
    intro h
    refine q344 hm hT hC (qw7 (qv8 d) y7) h fun y8 h=>?_
    refine q9c (q91 (q93 (q91 (q91 (q93 (q91 (q93 (q91 (q93 (q91 ?_))))))))))
    cases h
    exact (hend _ (by kernel_rfl)).2
   ·
    intro h
    refine q99 (q8z ?_)
    refine q9i hm hT hC (qw9 (qv8 d) y7) h ?_
    intro y9 h
    refine q92 (q8z ?_)
    refine q9i hm hT hC (qwb (qv8 d) y9) h ?_
    intro y6 h
    exact hn2 _ h
  ·
   intro h
   refine q9b (q90 (q90 (q94 (q8z ?_))))
   refine q344 hm hT hC (qwd (qv8 d) y5) h fun y10 h=>?_
   refine q344 hm hT hC (qwf (qv8 d) y10) h fun y11 h=>?_
   refine q9i hm hT hC (qwh (qv8 d) y11) h ?_
   intro y12 h
   refine q92 ?_
   exact hn1 _ h
 ·
  intro h
  refine q9b (q90 (q90 (q94 (q8z ?_))))
  refine q344 hm hT hC (qwk (qv8 d) y4) h fun y13 h=>?_
  refine q9c ?_
  cases h
  exact (hend _ (by kernel_rfl)).2
end Go.Proofs.Ytoakhncbmpdacaa
