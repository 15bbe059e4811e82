/- Walks of the references; the orders agree; examples. -/
import Derived.IntWalk
import Derived.Shelf.SlSortCmp.NoneTotal
import Derived.Test.YtoakhncbmpdacaaProg
import Derived.Sort.Statements
import Derived.Shelf.SlSortCmp.Insertion
import Derived.Test.YtoakhncbmpdacaaGc
set_option linter.unusedSimpArgs false
set_option linter.unusedVariables false
namespace Go.Proofs.Ytoakhncbmpdacaa
open Go Go.Tx Go.Pel Go.Proofs.Try
set_option maxRecDepth 100000
set_option maxHeartbeats 0
abbrev qoa:List Pk:=[.row Rii true]
abbrev qob:Type:=Dii×Unit
abbrev qoc:Type:=Int
def qod (r:qoc):LV×List Ob:=(.int .i64 r,[])
def qoe (F:qob→Option qoc):Go.Tx.Spec:=⟨73,qoa,qoc,F,qod⟩
def qof (x:qob):Bool:=i64B x.1.1&&i64B x.1.2.1
def qog (d:Nat) (x:qob):Option qoc:=bif qof x then some (qeg x.1.1 x.1.2.1) else none
theorem qoh (d:Nat) (x:qob) (h:qof x=true):qog d x=some (qeg x.1.1 x.1.2.1):=by unfold qog;rw [h];rfl
theorem qoi (d:Nat):COK prog (qoe (qog d)):=by
 refine qj0 (qj1 (fn:=f73) (by kernel_rfl) (by kernel_rfl) (by kernel_rfl)) fun x r hx w φ vs hφ hv=>?_
 have hx:qog d x=some r:=hx
 unfold qog at hx
 obtain ⟨hc,rfl⟩:=qkg hx
 have hv:VRs (Emb.fro φ) [.agg [.int .i64 x.1.1,.int .i64 x.1.2.1]] vs:=hv
 obtain ⟨v0,rfl,q0⟩:=vrs1 hv
 have r0:=qiu q0;subst r0
 unfold qof at hc
 simp only [Bool.and_eq_true] at hc
 obtain ⟨h1,h2⟩:=hc
 refine (qlk x.1.1 x.1.2.1 w (qkd h1) (qkd h2)).mono ?_
 rintro e w' ⟨rfl,y,rfl⟩
 exact qiy hφ (.int _ _) y
abbrev qps:List Pk:=[.row Riii true,.row Riii true,.row Rii true]
abbrev qpt:Type:=Diii×Diii×Dii×Unit
abbrev qpu:Type:=Bool×Int
def qpv (r:qpu):LV×List Ob:=(.tup [.bool r.1,.int .i64 r.2],[])
def qpw (F:qpt→Option qpu):Go.Tx.Spec:=⟨46,qps,qpu,F,qpv⟩
def qpx (x:qpt):Bool:=i64B x.2.2.1.1&&i64B x.2.2.1.2.1
def qpy (d:Nat) (x:qpt):Option qpu:=bif qpx x then some ((qmd (ofP x.1) (ofP x.2.1) x.2.2.1.1 x.2.2.1.2.1).1,(qmd (ofP x.1) (ofP x.2.1) x.2.2.1.1 x.2.2.1.2.1).2) else none
theorem qpz (d:Nat) (x:qpt) (h:qpx x=true):qpy d x=some ((qmd (ofP x.1) (ofP x.2.1) x.2.2.1.1 x.2.2.1.2.1).1,(qmd (ofP x.1) (ofP x.2.1) x.2.2.1.1 x.2.2.1.2.1).2):=by unfold qpy;rw [h];rfl
theorem qq0 (d:Nat):COK prog (qpw (qpy d)):=by
 refine qj0 (qj1 (fn:=f46) (by kernel_rfl) (by kernel_rfl) (by kernel_rfl)) fun x r hx w φ vs hφ hv=>?_
 have hx:qpy d x=some r:=hx
 unfold qpy at hx
 obtain ⟨hc,rfl⟩:=qkg hx
 have hv:VRs (Emb.fro φ) [.agg [.int .i64 x.1.1,.int .i64 x.1.2.1,.int .i64 x.1.2.2.1],.agg [.int .i64 x.2.1.1,.int .i64 x.2.1.2.1,.int .i64 x.2.1.2.2.1],.agg [.int .i64 x.2.2.1.1,.int .i64 x.2.2.1.2.1]] vs:=hv
 obtain ⟨v0,vs,rfl,q0,hv⟩:=VRs.uncons hv
 obtain ⟨v1,vs,rfl,q1,hv⟩:=VRs.uncons hv
 obtain ⟨v2,rfl,q2⟩:=vrs1 hv
 have r0:=qit (p:=x.1) q0;subst r0
 have r1:=qit (p:=x.2.1) q1;subst r1
 have r2:=qiu q2;subst r2
 unfold qpx at hc
 simp only [Bool.and_eq_true] at hc
 obtain ⟨h1,h2⟩:=hc
 refine (qn0 (ofP x.1) (ofP x.2.1) x.2.2.1.1 x.2.2.1.2.1 w (qkd h1) (qkd h2)).mono ?_
 rintro e w' ⟨rfl,y,rfl⟩
 exact qiy hφ (VR.tupL (VRs.cons (.bool _) (VRs.cons (.int _ _) VRs.nil))) y
abbrev qq1:List Pk:=[.row qks true]
abbrev qq2:Type:=qkt×Unit
abbrev qq3:Type:=Bool
def qq4 (r:qq3):LV×List Ob:=(.bool r,[])
def qq5 (F:qq2→Option qq3):Go.Tx.Spec:=⟨9,qq1,qq3,F,qq4⟩
def qq6 (x:qq2):Bool:=true
def qq7 (d:Nat) (x:qq2):Option qq3:=bif qq6 x then some (great (ptsL x.1.1).length) else none
theorem qq8 (d:Nat) (x:qq2) (h:qq6 x=true):qq7 d x=some (great (ptsL x.1.1).length):=by unfold qq7;rw [h];rfl
theorem qq9 (d:Nat):COK prog (qq5 (qq7 d)):=by
 refine qj0 (qj1 (fn:=f9) (by kernel_rfl) (by kernel_rfl) (by kernel_rfl)) fun x r hx w φ vs hφ hv=>?_
 have hx:qq7 d x=some r:=hx
 unfold qq7 at hx
 obtain ⟨hc,rfl⟩:=qkg hx
 have hv:VRs (Emb.fro φ) [.agg [.fz RP x.1.1]] vs:=hv
 obtain ⟨v0,rfl,q0⟩:=vrs1 hv
 obtain ⟨A0,c0,rfl,s0,z0⟩:=qkb hφ q0
 refine (qnf A0 (ptsL x.1.1).length c0 w).mono ?_
 rintro e w' ⟨rfl,y,rfl⟩
 exact qiy hφ (.bool _) y
abbrev qqa:List Pk:=[.row qks true]
abbrev qqb:Type:=qkt×Unit
abbrev qqc:Type:=Int
def qqd (r:qqc):LV×List Ob:=(.int .i64 r,[])
def qqe (F:qqb→Option qqc):Go.Tx.Spec:=⟨72,qqa,qqc,F,qqd⟩
def qqf (x:qqb):Bool:=true
def qqg (d:Nat) (x:qqb):Option qqc:=bif qqf x then some (qhk (ptsL x.1.1)) else none
theorem qqh (d:Nat) (x:qqb) (h:qqf x=true):qqg d x=some (qhk (ptsL x.1.1)):=by unfold qqg;rw [h];rfl
theorem qqi (d:Nat):COK prog (qqe (qqg d)):=by
 refine qj0 (qj1 (fn:=f72) (by kernel_rfl) (by kernel_rfl) (by kernel_rfl)) fun x r hx w φ vs hφ hv=>?_
 have hx:qqg d x=some r:=hx
 unfold qqg at hx
 obtain ⟨hc,rfl⟩:=qkg hx
 have hv:VRs (Emb.fro φ) [.agg [.fz RP x.1.1]] vs:=hv
 obtain ⟨v0,rfl,q0⟩:=vrs1 hv
 obtain ⟨A0,c0,rfl,s0,z0⟩:=qkb hφ q0
 refine (qmw A0 c0 (ptsL x.1.1) w s0).mono ?_
 rintro e w' ⟨rfl,y,rfl⟩
 exact qiy hφ (.int _ _) y
abbrev qqs:List Pk:=[.row qks true,.row Ri false]
abbrev qqt:Type:=qkt×Di×Unit
abbrev qqu:Type:=Int
def qqv (r:qqu):LV×List Ob:=(.int .i64 r,[])
def qqw (F:qqt→Option qqu):Go.Tx.Spec:=⟨43,qqs,qqu,F,qqv⟩
def qqx (x:qqt):Bool:=decide ((ptsL x.1.1).length≤1000000)
def qqy (d:Nat) (x:qqt):Option qqu:=bif qqx x then some (atI (ptsL x.1.1) x.2.1.1) else none
theorem qqz (d:Nat) (x:qqt) (h:qqx x=true):qqy d x=some (atI (ptsL x.1.1) x.2.1.1):=by unfold qqy;rw [h];rfl
theorem qr0 (d:Nat):COK prog (qqw (qqy d)):=by
 refine qj0 (qj1 (fn:=f43) (by kernel_rfl) (by kernel_rfl) (by kernel_rfl)) fun x r hx w φ vs hφ hv=>?_
 have hx:qqy d x=some r:=hx
 unfold qqy at hx
 obtain ⟨hc,rfl⟩:=qkg hx
 have hv:VRs (Emb.fro φ) [.agg [.fz RP x.1.1],.int .i64 x.2.1.1] vs:=hv
 obtain ⟨v0,vs,rfl,q0,hv⟩:=VRs.uncons hv
 obtain ⟨v1,rfl,q1⟩:=vrs1 hv
 obtain ⟨A0,c0,rfl,s0,z0⟩:=qkb hφ q0
 have r1:=qiv q1;subst r1
 unfold qqx at hc
 have h1:=hc
 replace h1:=of_decide_eq_true h1
 refine (qne A0 c0 (ptsL x.1.1) x.2.1.1 w s0 h1).mono ?_
 rintro e w' ⟨rfl,y,rfl⟩
 exact qiy hφ (.int _ _) y
end Go.Proofs.Ytoakhncbmpdacaa

namespace Go.Proofs.Ytoakhncbmpdacaa
open Go.RowKit Go.Pel
def fieldPlace (l:List Pt) (id:Int):Int×Int:=if qhk l≠0 then (0,qhk l) else if hasB l id then ((lowB l id:Int),0) else (0,6)
end Go.Proofs.Ytoakhncbmpdacaa

namespace Go.Proofs.Ytoakhncbmpdacaa
open Go.RowKit Go.Pel Go.IntWalk
set_option maxRecDepth 10000 in
set_option maxHeartbeats 1000000 in
theorem qrj (A:Option Addr) (c:Nat) (l:List Pt) (w:World) (hs:Sl w 3 A l.length c (vp l)) (hn:A=none→c=0) (hl:l.length≤1000000) :
    Calls Try.prog 89 #[.slice A l.length c] w fun e w'=>∃ A' c',e=.returned (.slice A' l.length c')∧∃ x,w'=ext w x∧Own (ext w x) w.heap.size 75 3 A' l.length c' (vp l):=by
  have hnil:=fun W n c n' c'=>Lib.run_eql_slice_nil (P:=Try.prog) W 22 75 A n c n' c' Try.underlying22
  cases A with
  | none =>
    obtain rfl:=hn rfl
    obtain rfl:l=[]:=by
      cases l with
      | nil=>rfl
      | cons p l=>obtain ⟨b,o,h,_⟩:=hs.at_ (by simp);cases h
    go_enter Try.func89,Try.ntmps89
    go_wp2
    go_ret
    exact ⟨none,0,rfl,qha _ _ _ _⟩
  | some a =>
    go_enter Try.func89,Try.ntmps89
    go_wp2_with ((at_builtin;(try refine qgx rfl (by first | rfl | simp [yielded]) ?_);refine qgz qn9 (by (try simp only [qcy]);repeat (first | exact Bel.refl _ | assumption | refine qd7 ?_ _ | refine qd8 ?_ _ | refine Bel.ext ?_ _ | refine Bel.alloc ?_ _ | refine Bel.drewN ?_ _)) (hs) (by (try simp only [qcy]);repeat (first | exact Bel.refl _ | assumption | refine qd7 ?_ _ | refine qd8 ?_ _ | refine Bel.ext ?_ _ | refine Bel.alloc ?_ _ | refine Bel.drewN ?_ _)) (qhd _) (hn) (by omega) rfl _ _ rfl rfl rfl (by simp [go_sem]) ?_;rintro A1 c1 y1 hown1))
    go_ret
    exact ⟨_,_,rfl,qge (by (try simp only [qcy]);repeat (first | exact Bel.refl _ | assumption | refine qd7 ?_ _ | refine qd8 ?_ _ | refine Bel.ext ?_ _ | refine Bel.alloc ?_ _ | refine Bel.drewN ?_ _)) (qgw (by simp [go_sem]) hown1 (by simp [go_sem])) (Bel.refl _) (by simp [go_sem])⟩
end Go.Proofs.Ytoakhncbmpdacaa

namespace Go.Proofs.Ytoakhncbmpdacaa
open Go.RowKit Go.Pel Go.IntWalk
end Go.Proofs.Ytoakhncbmpdacaa

namespace Go.Proofs.Ytoakhncbmpdacaa
open Go.RowKit Go.Pel Go.IntWalk
end Go.Proofs.Ytoakhncbmpdacaa

namespace Go.Proofs
open Go.Shelf
def Try.laysSort_ren:Go.Shelf.Ren:=⟨fun | 6=>90 | 15=>101 | 14=>100 | 28=>115 | 29=>116 | 20=>107 | 21=>108 | 22=>109 | 23=>110 | 24=>111 | 25=>112 | 26=>113 | 27=>114 | 46=>120 | 47=>121 | 48=>122 | 49=>123 | 50=>124 | 57=>128 | n=>n,fun | 22=>22 | 24=>75 | 25=>137 | 3=>3 | 39=>125 | 0=>0 | 53=>162 | 55=>131 | 4=>4 | 46=>156 | 45=>155 | 50=>98 | 5=>5 | 9=>9 | 66=>169 | 70=>104 | 76=>176 | 77=>50 | n=>n,fun | n=>n⟩
theorem Try.laysSort:Go.Proofs.SlLaysF0.n6 Try.prog Try.laysSort_ren:={
  mixed:=by kernel_rfl
  f6:=⟨Try.f90.name,by decide,Try.func90.trans (congrArg some (by kernel_rfl))⟩
  f14:=⟨Try.f100.name,by decide,Try.func100.trans (congrArg some (by kernel_rfl))⟩
  f15:=Try.func101.trans (congrArg some (by kernel_rfl))
  f20:=⟨Try.f107.name,by decide,Try.func107.trans (congrArg some (by kernel_rfl))⟩
  f21:=⟨Try.f108.name,by decide,Try.func108.trans (congrArg some (by kernel_rfl))⟩
  f22:=⟨Try.f109.name,by decide,Try.func109.trans (congrArg some (by kernel_rfl))⟩
  f23:=⟨Try.f110.name,by decide,Try.func110.trans (congrArg some (by kernel_rfl))⟩
  f24:=⟨Try.f111.name,by decide,Try.func111.trans (congrArg some (by kernel_rfl))⟩
  f25:=⟨Try.f112.name,by decide,Try.func112.trans (congrArg some (by kernel_rfl))⟩
  f26:=⟨Try.f113.name,by decide,Try.func113.trans (congrArg some (by kernel_rfl))⟩
  f27:=⟨Try.f114.name,by decide,Try.func114.trans (congrArg some (by kernel_rfl))⟩
  f28:=Try.func115.trans (congrArg some (by kernel_rfl))
  f29:=Try.func116.trans (congrArg some (by kernel_rfl))
  f46:=⟨Try.f120.name,by decide,Try.func120.trans (congrArg some (by kernel_rfl))⟩
  f47:=Try.func121.trans (congrArg some (by kernel_rfl))
  f48:=Try.func122.trans (congrArg some (by kernel_rfl))
  f49:=⟨Try.f123.name,by decide,Try.func123.trans (congrArg some (by kernel_rfl))⟩
  f50:=⟨Try.f124.name,by decide,Try.func124.trans (congrArg some (by kernel_rfl))⟩
  f57:=⟨Try.f128.name,by decide,Try.func128.trans (congrArg some (by kernel_rfl))⟩
  t0:=Try.underlying0
  a0:=Try.isAgg0
  z0:=Try.sizeOf0
  v0:=Try.zeroValue0
  t3:=Try.underlying3
  a3:=Try.isAgg3
  z3:=Try.sizeOf3
  v3:=Try.zeroValue3
  t4:=Try.underlying4
  a4:=Try.isAgg4
  z4:=Try.sizeOf4
  v4:=Try.zeroValue4
  t5:=Try.underlying5
  a5:=Try.isAgg5
  z5:=Try.sizeOf5
  v5:=Try.zeroValue5
  t9:=Try.underlying9
  a9:=Try.isAgg9
  z9:=Try.sizeOf9
  v9:=Try.zeroValue9
  t22:=Try.underlying22
  a22:=Try.isAgg22
  z22:=Try.sizeOf22
  v22:=Try.zeroValue22
  t25:=Try.underlying137
  a25:=Try.isAgg137
  z25:=Try.sizeOf137
  v25:=Try.zeroValue137
  t39:=Try.underlying125
  a39:=Try.isAgg125
  z39:=Try.sizeOf125
  v39:=Try.zeroValue125
  t45:=Try.underlying155
  a45:=Try.isAgg155
  z45:=Try.sizeOf155
  v45:=Try.zeroValue155
  t46:=Try.underlying156
  a46:=Try.isAgg156
  z46:=Try.sizeOf156
  v46:=Try.zeroValue156
  t50:=Try.underlying98
  a50:=Try.isAgg98
  z50:=Try.sizeOf98
  v50:=Try.zeroValue98
  t53:=Try.underlying162
  a53:=Try.isAgg162
  z53:=Try.sizeOf162
  v53:=Try.zeroValue162
  t55:=Try.underlying131
  a55:=Try.isAgg131
  z55:=Try.sizeOf131
  v55:=Try.zeroValue131
  t66:=Try.underlying169
  a66:=Try.isAgg169
  z66:=Try.sizeOf169
  v66:=Try.zeroValue169
  t70:=Try.underlying104
  a70:=Try.isAgg104
  z70:=Try.sizeOf104
  v70:=Try.zeroValue104
  t76:=Try.underlying176
  a76:=Try.isAgg176
  z76:=Try.sizeOf176
  v76:=Try.zeroValue176
  t77:=Try.underlying50
  a77:=Try.isAgg50
  z77:=Try.sizeOf50
  v77:=Try.zeroValue50 }
end Go.Proofs

namespace Go.Pel
open Go.Sort Go.Proofs
def qrr (p:Pt) (n d:Int):Int:=p.a*d+p.b*n
theorem qrs (p q:Pt) (n d:Int):farD p q n d=qrr p n d - qrr q n d:=by
  unfold farD qrr;rw [Int.sub_mul,Int.sub_mul];omega
theorem qrt (p q:Pt) (n d:Int):qlx p q n d=true↔qrr q n d<qrr p n d∨(qrr q n d=qrr p n d∧(q.b<p.b∨(q.b=p.b∧p.id<q.id))):=by
  unfold qlx
  rw [qrs]
  by_cases h:qrr p n d - qrr q n d≠0
  · rw [if_pos h];simp;omega
  · rw [if_neg h]
    by_cases h2:p.b≠q.b
    · rw [if_pos h2];simp;omega
    · rw [if_neg h2];simp;omega
def cfP (n d:Int) (p q:Pt):Int:=if p.id=q.id then 0 else if qlx p q n d then -1 else 1
theorem qru (n d:Int) (p q:Pt):ltOf (cfP n d) p q=true↔p.id≠q.id∧qlx p q n d=true:=by
  unfold ltOf cfP
  by_cases h:p.id=q.id
  · rw [if_pos h];simp [h]
  · rw [if_neg h]
    by_cases h2:qlx p q n d=true
    · rw [if_pos h2];simp [h,h2]
    · rw [if_neg h2];simp [h2]
def cfL (n d:Int) (l:List Pt) (x y:{p:Pt // p∈l}):Int:=cfP n d x.1 y.1
theorem qrv (n d:Int) (l:List Pt) (x y:{p:Pt // p∈l}):ltOf (cfL n d l) x y=true↔x.1.id≠y.1.id∧qlx x.1 y.1 n d=true:=qru n d x.1 y.1
def qrw (l:List Pt):Prop:=∀ p∈l,∀ q∈l,p.id=q.id→p=q
theorem nlt {n d:Int} {p q:Pt} (h:qlx p q n d=false):¬ (qrr q n d<qrr p n d∨(qrr q n d=qrr p n d∧(q.b<p.b∨(q.b=p.b∧p.id<q.id)))):=by
  rw [← qrt,h];decide
theorem qrx {n d:Int} {l:List Pt} (hi:qrw l):SWO (ltOf (cfL n d l)):=by
  have F:∀ x y,ltOf (cfL n d l) x y=false↔(x=y∨(x.1.id≠y.1.id∧qlx x.1 y.1 n d=false)):=by
    intro x y
    rw [← Bool.not_eq_true,qrv]
    constructor
    · intro h
      by_cases he:x.1.id=y.1.id
      · exact .inl (Subtype.ext (hi _ x.2 _ y.2 he))
      · exact .inr ⟨he,by simpa [he] using h⟩
    · rintro (rfl | ⟨h1, h2⟩)
      · simp
      · simp [h2]
  constructor
  · intro x;exact (F x x).2 (.inl rfl)
  · intro x y z h1 h2
    rw [qrv,qrt] at h1 h2 ⊢
    refine ⟨?_,by omega⟩
    intro h
    obtain rfl:x=z:=Subtype.ext (hi _ x.2 _ z.2 h)
    omega
  · intro x y z h1 h2
    rw [F] at h1 h2 ⊢
    rcases h1 with rfl | ⟨h1,k1⟩
    · exact h2
    rcases h2 with rfl | ⟨h2,k2⟩
    · exact .inr ⟨h1,k1⟩
    have k1:=nlt k1
    have k2:=nlt k2
    by_cases hne:x.1.id=z.1.id
    · exact .inl (Subtype.ext (hi _ x.2 _ z.2 hne))
    refine .inr ⟨hne,?_⟩
    rw [← Bool.not_eq_true,qrt]
    omega
theorem qry {n d:Int} {l:List Pt} (hi:qrw l) (x y:{p:Pt // p∈l}) (h1:ltOf (cfL n d l) x y=false) (h2:ltOf (cfL n d l) y x=false):x=y:=by
  rw [← Bool.not_eq_true,qrv] at h1 h2
  by_cases he:x.1.id=y.1.id
  · exact Subtype.ext (hi _ x.2 _ y.2 he)
  · exfalso
    have h1':qlx x.1 y.1 n d=false:=by simpa [he] using h1
    have h2':qlx y.1 x.1 n d=false:=by simpa [Ne.symm he] using h2
    have:=nlt h1'
    have:=nlt h2'
    omega
def qrz (n d:Int) (l:List Pt):List Pt:=((l.attach.mergeSort fun x y=>!(ltOf (cfL n d l)) y x)).map Subtype.val
theorem qs0 (n d:Int) (l:List Pt):(qrz n d l).Perm l:=by
  unfold qrz
  have:=(List.mergeSort_perm l.attach (fun x y=>!(ltOf (cfL n d l)) y x)).map Subtype.val
  simpa [List.attach_map_subtype_val] using this
theorem qs1 (n d:Int) (l:List Pt):(qrz n d l).length=l.length:=(qs0 n d l).length_eq
theorem qs2 {n d:Int} {l:List Pt} (hi:qrw l) (hn:(l.map Pt.id).Nodup):(qrz n d l).Pairwise fun p q=>qlx p q n d=true:=by
  have hO:=qrx (n:=n) (d:=d) hi
  have h1:(l.attach.mergeSort fun x y=>!(ltOf (cfL n d l)) y x).Pairwise fun x y=>(!(ltOf (cfL n d l)) y x)=true:=by
    apply List.pairwise_mergeSort
    · intro a b c h1 h2
      simp only [Bool.not_eq_true',] at h1 h2 ⊢
      exact hO.ntrans _ _ _ h2 h1
    · intro a b
      simp only [Bool.or_eq_true,Bool.not_eq_true']
      by_cases h:ltOf (cfL n d l) b a=true
      · right
        rcases hq:ltOf (cfL n d l) a b with _ | _
        · rfl
        · have:=hO.trans _ _ _ h hq;rw [hO.irrefl] at this;exact absurd this (by decide)
      · left;simpa using h
  have h2:(qrz n d l).Pairwise fun p q=>p.id≠q.id:=by
    have:=((qs0 n d l).map Pt.id).nodup_iff.2 hn
    exact List.pairwise_map.1 this
  have h3:(qrz n d l).Pairwise fun p q=>¬ (q.id≠p.id∧qlx q p n d=true):=by
    unfold qrz
    rw [List.pairwise_map]
    refine h1.imp ?_
    intro a b h
    rw [← qrv]
    simpa using h
  refine (h2.and h3).imp ?_
  rintro p q ⟨h,h'⟩
  have h4:qlx q p n d=false:=by simpa [Ne.symm h] using h'
  have:=nlt h4
  rw [qrt]
  omega
end Go.Pel

namespace Go.Proofs.Ytoakhncbmpdacaa
open Go.RowKit Go.Pel
set_option maxRecDepth 10000 in
set_option maxHeartbeats 2000000 in
theorem qs3 (p q:Pt) (n d:Int) (rb:Nat) (w:World) (hn:-9223372036854775808≤n∧n≤9223372036854775807) (hd:-9223372036854775808≤d∧d≤9223372036854775807) (r0:Held w rb 0 (.int .i64 n)) (r1:Held w rb 1 (.int .i64 d)) (ht:p.id≠q.id→qm8 p q n d=0) :
    Calls Try.prog 91 #[.agg #[.int .i64 p.id,.int .i64 p.a,.int .i64 p.b],.agg #[.int .i64 q.id,.int .i64 q.a,.int .i64 q.b],.pointer (some ⟨rb,0,none⟩)] w fun e w'=>e=.returned (.int .i64 (cfP n d p q))∧∃ x,w'=ext w x:=by
  have hb:=r0.lt
  have c0:=r0.eq
  have c1:=r1.eq
  have q1:=Lib.hid (fun W=>qn0 p q n d W hn hd)
  clear hn hd r0 r1
  by_cases h:p.id=q.id
  · have HV := Lib.hid (show (0 : Int) = cfP n d p q from (if_pos h).symm)
    clear ht q1
    go_enter Try.func91,Try.ntmps91
    go_wp2
    (go_ret;exact ⟨qle (by exact HV.out),ext_of (by (try simp only [qcy]);repeat (first | exact Bel.refl _ | assumption | refine qd7 ?_ _ | refine qd8 ?_ _ | refine Bel.ext ?_ _ | refine Bel.alloc ?_ _ | refine Bel.drewN ?_ _))⟩)
  · have HA : qmd p q n d = (qlx p q n d, 0) := if_pos (ht h)
    rw [HA] at q1
    clear ht HA
    rcases hL:qlx p q n d with _ | _
    · have HV := Lib.hid (show (1 : Int) = cfP n d p q by unfold cfP; rw [if_neg h, hL]; rfl)
      rw [hL] at q1
      clear hL
      go_enter Try.func91,Try.ntmps91
      go_wp2_with ((go_at_call 46;(with_reducible refine (q1.out _).mono ?_);rintro e _ ⟨rfl,nx,rfl⟩))
      (go_ret;exact ⟨qle (by exact HV.out),ext_of (by (try simp only [qcy]);repeat (first | exact Bel.refl _ | assumption | refine qd7 ?_ _ | refine qd8 ?_ _ | refine Bel.ext ?_ _ | refine Bel.alloc ?_ _ | refine Bel.drewN ?_ _))⟩)
    · have HV := Lib.hid (show (-1 : Int) = cfP n d p q by unfold cfP; rw [if_neg h, hL]; rfl)
      rw [hL] at q1
      clear hL
      go_enter Try.func91,Try.ntmps91
      go_wp2_with ((go_at_call 46;(with_reducible refine (q1.out _).mono ?_);rintro e _ ⟨rfl,nx,rfl⟩))
      (go_ret;exact ⟨qle (by exact HV.out),ext_of (by (try simp only [qcy]);repeat (first | exact Bel.refl _ | assumption | refine qd7 ?_ _ | refine qd8 ?_ _ | refine Bel.ext ?_ _ | refine Bel.alloc ?_ _ | refine Bel.drewN ?_ _))⟩)
end Go.Proofs.Ytoakhncbmpdacaa

namespace Go
open RowKit Go.Sort Go.Proofs Go.Shelf
theorem qs4 {α:Type} [Inhabited α] (enc:α→List Value) (k:Nat) (hk:∀ x,(enc x).length=k):∀ (l:List α),(flatK enc k l.toArray).toList=l.flatMap enc:=by
  intro l
  have key:∀ (l:List α) (t:Nat),t<l.length*k→(l.flatMap enc)[t]?=some ((enc l[t / k]!)[t % k]!):=by
    intro l
    induction l with
    | nil=>intro t ht;simp at ht
    | cons a r ih =>
      intro t ht
      have k0:0<k:=by
        rcases Nat.eq_zero_or_pos k with h | h
        · subst h;simp at ht
        · exact h
      rw [List.flatMap_cons]
      by_cases hlt:t<k
      · rw [List.getElem?_append_left (by rw [hk]; exact hlt), Nat.div_eq_of_lt hlt, Nat.mod_eq_of_lt hlt]
        have:t<(enc a).length:=by rw [hk];exact hlt
        simp [this]
      · rw [List.getElem?_append_right (by rw [hk]; omega), hk]
        have h2:t - k<r.length*k:=by
          rw [List.length_cons,Nat.add_mul,Nat.one_mul] at ht;omega
        rw [ih (t - k) h2]
        have e1:t / k=(t - k) / k+1:=by
          have:=Nat.div_eq_sub_div k0 (by omega:k≤t)
          omega
        have e2:t % k=(t - k) % k:=Nat.mod_eq_sub_mod (by omega)
        rw [e1,e2]
        simp
  have hlen:(l.flatMap enc).length=l.length*k:=by
    induction l with
    | nil=>simp
    | cons a r ih=>rw [List.flatMap_cons,List.length_append,ih,hk,List.length_cons,Nat.add_mul,Nat.one_mul];omega
  apply List.ext_getElem?
  intro t
  by_cases ht:t<l.length*k
  · rw [key l t ht]
    simp [flatK,ht]
  · rw [List.getElem?_eq_none (by simp [flatK];omega),List.getElem?_eq_none (by rw [hlen];omega)]
theorem qs5 {w:World} {base g cap size:Nat} {e:TypeId} {cur:List Value} (h:Row w base e size g cap cur) (q:Nat) (F:Array Value) (hF:F.size≤cur.length):Row (putRow id (Sort.ahead w q) g 0 F) base e size g cap (F.toList++cur.drop F.size):=by
  refine ⟨h.1,?_,h.2.2.1,?_⟩
  · have:putCells id 0 F cur.toArray=(F.toList++cur.drop F.size).toArray:=by
      apply Array.ext_getElem?
      intro k
      simp only [putCells,Array.getElem?_mapIdx,List.getElem?_toArray]
      by_cases hk:k<F.size
      · rw [List.getElem?_append_left (by simpa using hk)]
        have:k<cur.length:=by omega
        simp [this,hk]
      · rw [List.getElem?_append_right (by simpa using hk)]
        simp [hk,show F.size+(k - F.size)=k by omega]
    unfold putRow mapBlock Sort.ahead
    simp [Array.getElem?_modify,h.2.1,onCells,this]
  · rw [List.length_append,List.length_drop,← h.len];simp;omega
theorem qs6 (g:Nat) (w:World) (q off:Nat) (F:Array Value):Apart g w (putRow id (Sort.ahead w q) g off F) :=
  ⟨rfl,rfl,rfl,by simp [putRow,mapBlock,Sort.ahead],by simp [putRow,mapBlock,Sort.ahead],fun b hb=>by simp [putRow,mapBlock,Sort.ahead,Array.getElem?_modify,Ne.symm hb]⟩
theorem qs7 (w:World) (os:Array Obj):Bel w (grow w os) :=
  ⟨⟨rfl,rfl,rfl,by simp [grow],fun k hk=>by simp only [grow];rw [Array.getElem?_append_left hk]⟩,Nat.le_refl _⟩
theorem qs8 (w:World) (x:Beyond):ext w x=grow (w.drewN x.drawn) x.objs:=by
  unfold ext grow World.drewN;rfl
end Go
namespace Go.Proofs.Ytoakhncbmpdacaa
open Go.RowKit Go.Pel Go.Sort Go.Shelf
def encL (l:List Pt) (x:{p:Pt // p∈l}):List Value:=x.1.cells
theorem qs9 (l:List Pt) (m:List {p:Pt // p∈l}):m.flatMap (encL l)=vp (m.map Subtype.val):=by
  unfold vp encL;rw [List.flatMap_map]
set_option maxRecDepth 10000 in
set_option maxHeartbeats 1000000 in
theorem qsa (A:Option Addr) (c:Nat) (l:List Pt) (n d:Int) (rb B:Nat) (wB w:World) (hs:Own w B 75 3 A l.length c (vp l)) (hb:Bel wB w) (hB:wB.heap.size≤B) (hrb:rb<B)
    (r0:Held w rb 0 (.int .i64 n)) (r1:Held w rb 1 (.int .i64 d)) (hn:-9223372036854775808≤n∧n≤9223372036854775807) (hd:-9223372036854775808≤d∧d≤9223372036854775807) (hl:l.length≤1000000) (hi:qrw l) (ht:∀ p∈l,∀ q∈l,p.id≠q.id→qm8 p q n d=0) :
    Calls Try.prog 90 #[.slice A l.length c,.func (.func 91) #[] #[.pointer (some ⟨rb,0,none⟩)]] w fun e w'=>e=.returned (.tuple #[])∧∃ y,w'=ext wB y∧Own (ext wB y) B 75 3 A l.length c (vp (qrz n d l)):=by
  by_cases h0:l=[]
  · subst h0
    have hcon:=AnyF.slices_SortFunc_none Try.laysSort A c (.func (.func 91) #[] #[.pointer (some ⟨rb,0,none⟩)]) w
    refine Calls.mono hcon ?_
    rintro e w' ⟨rfl,rfl⟩
    refine ⟨rfl,qgq hb ?_ (Bel.refl _)⟩
    have e0:qrz n d []=[]:=List.eq_nil_of_length_eq_zero (qs1 n d [])
    rw [e0];exact hs
  · rcases hs.row with ⟨rfl, hn, _⟩ | ⟨g, cur, rfl, hr, hnc, hcur⟩
    · exact absurd (List.eq_nil_of_length_eq_zero hn) h0
    have hg:=hr.1
    haveI:Inhabited {p:Pt // p∈l}:=⟨⟨l.head h0,List.head_mem h0⟩⟩
    have hcl:(vp l).length≤cur.length:=by rw [← hcur,List.length_take];omega
    have eg:∀ args w,(callFunc 91 args).run Try.prog w=.ok (.enter 91 args) w:=enters_of Try.func91 (by kernel_rfl) rfl
    have hk:∀ x,(encL l x).length=3:=fun _=>rfl
    have hflat:∀ m:List {p:Pt // p∈l},(flatK (encL l) 3 m.toArray).toList=vp (m.map Subtype.val):=fun m=>by rw [qs4 _ _ hk,qs9]
    have hcmp:CmpLays Try.prog 91 #[.pointer (some ⟨rb,0,none⟩)] (encL l) 3 (cfL n d l) g 0 l.attach.toArray.size w:=by
      intro m os dk _ x y
      have hap:Apart g w (putRowK (encL l) 3 (Sort.ahead w m) g 0 dk):=qs6 g w m 0 _
      have hbg:Bel (putRowK (encL l) 3 (Sort.ahead w m) g 0 dk) (sortWorldK (encL l) 3 w g 0 m dk os):=qs7 _ os
      have h:=qs3 x.1 y.1 n d rb (sortWorldK (encL l) 3 w g 0 m dk os) hn hd ((r0.apart hap (by omega)).bel hbg) ((r1.apart hap (by omega)).bel hbg) (ht _ x.2 _ y.2)
      refine Calls.mono h ?_
      rintro e w' ⟨rfl,z,rfl⟩
      exact ⟨rfl,z.drawn,z.objs,qs8 _ z⟩
    have hfl:(flatK (encL l) 3 l.attach.toArray)=(vp l).toArray:=by
      apply Array.toList_inj.1
      rw [hflat,List.attach_map_subtype_val]
    have hH:HoldsK (encL l) 3 w g 0 l.attach.toArray:=by
      unfold HoldsK
      rw [hfl]
      intro j hj
      have hj':j<(vp l).length:=by simpa using hj
      refine ⟨?_,hr.frozen _⟩
      rw [Nat.zero_add]
      refine hr.cell ?_
      have:cur[j]?=(vp l)[j]?:=by
        rw [← hcur,List.getElem?_take,if_pos]
        rw [qhe] at hj';exact hj'
      rw [this]
      simp [hj']
    have hcon:=AnyQ.slices_SortFunc_total Try.laysSort 3 Try.isAgg75 Try.sizeOf75 (encL l) hk (fun x v hv=>qhc x.1 v hv) (cfL n d l) (qrx hi) 91 #[.pointer (some ⟨rb,0,none⟩)] g 0 c l.attach.toArray w eg hcmp hH hr.lt (by simp;omega) (fun x y h1 h2=>qry hi x y h1 h2)
    have hsz:l.attach.toArray.size=l.length:=by simp
    rw [hsz] at hcon
    refine Calls.mono hcon ?_
    rintro e w' ⟨rfl,m,os,rfl⟩
    refine ⟨rfl,?_⟩
    have hF:flatK (encL l) 3 (l.attach.mergeSort fun x y=>!(ltOf (cfL n d l)) y x).toArray=(vp (qrz n d l)).toArray:=by
      apply Array.toList_inj.1
      rw [hflat];rfl
    have hlen:(vp (qrz n d l)).length=l.length*3:=by rw [qhe,qs1]
    have hrow:=qs5 hr m (vp (qrz n d l)).toArray (by rw [qhe] at hcl;simp;omega)
    have hap:Apart g w (putRow id (Sort.ahead w m) g 0 (vp (qrz n d l)).toArray):=qs6 g w m 0 _
    have hown:=hrow.own hnc
    have htk:List.take (l.length*3) ((vp (qrz n d l)).toArray.toList++List.drop (vp (qrz n d l)).toArray.size cur)=vp (qrz n d l):=by
      simp only [List.size_toArray]
      rw [List.take_append_of_le_length (by omega),← hlen,List.take_length]
    rw [htk] at hown
    unfold sortWorldK putRowK
    show ∃ y,grow (putRow id (Sort.ahead w m) g 0 (flatK (encL l) 3 (l.attach.mergeSort fun x y=>!(ltOf (cfL n d l)) y x).toArray)) os=ext wB y∧_
    rw [hF]
    exact qgq ((hap.bel hb (by omega)).trans (qs7 _ os)) hown (qs7 _ os)
end Go.Proofs.Ytoakhncbmpdacaa

namespace Go.Pel
def qsb (l:List Pt) (n d:Int):List Pt×Int:=if qhk l≠0 then ([],qhk l) else if qeg n d≠0 then ([],qeg n d) else (qrz n d l,0)
theorem qsc {l:List Pt} (h:incB l=true):qrw l:=by
  intro p hp q hq he
  obtain ⟨i,hi⟩:=List.mem_iff_getElem?.1 hp
  obtain ⟨j,hj⟩:=List.mem_iff_getElem?.1 hq
  rcases (by omega:i<j∨j<i∨i=j) with k | k | k
  · have:=qhj h k hi hj;omega
  · have:=qhj h k hj hi;omega
  · subst k;rw [hi] at hj;exact Option.some.inj hj
end Go.Pel
namespace Go.Proofs.Ytoakhncbmpdacaa
open Go.RowKit Go.Pel
set_option maxRecDepth 10000 in
set_option maxHeartbeats 2000000 in
theorem qsd (A:Option Addr) (c:Nat) (l:List Pt) (n d:Int) (w:World) (hn:-9223372036854775808≤n∧n≤9223372036854775807) (hd:-9223372036854775808≤d∧d≤9223372036854775807) (hs:Sl w 3 A l.length c (vp l)) (hn0:A=none→c=0) :
    Calls Try.prog 71 #[.agg #[.slice A l.length c],.agg #[.int .i64 n,.int .i64 d]] w fun e w'=>∃ A' c',e=.returned (.tuple #[.slice A' (qsb l n d).1.length c',.int .i64 (qsb l n d).2])∧∃ x,w'=ext w x∧Own (ext w x) w.heap.size 75 3 A' (qsb l n d).1.length c' (vp (qsb l n d).1):=by
  have q:=Lib.hid (fun W hb=>qmw A c l W (hs.bel (w':=W) hb))
  have q2:=Lib.hid (fun W=>qlk n d W hn hd)
  by_cases h:qhk l=0
  · rw [h] at q
    obtain ⟨h64,hchk,hinc⟩:=qhp h
    by_cases h2:qeg n d=0
    · rw [h2] at q2
      have HF:Hid (qsb l n d=(qrz n d l,0)):=Lib.hid (by unfold qsb;rw [if_neg (by simpa using h),if_neg (by simpa using h2)])
      have q3:=Lib.hid (fun W hb=>qrj A c l W (hs.bel (w':=W) hb) hn0 (by omega))
      have hia:=qsc hinc
      have hap:∀ p∈l,∀ q∈l,p.id≠q.id→qm8 p q n d=0:=fun p hp q hq hne=>qmb ⟨hchk p hp,hchk q hq,h2⟩ hne
      have q4:=Lib.hid (fun (A2:Option Addr) (c2 rb B:Nat) (W:World) (hs2:Own W B 75 3 A2 l.length c2 (vp l)) (hb:Bel w W) (hB:w.heap.size≤B) (hrb:rb<B) (r0:Held W rb 0 (.int .i64 n)) (r1:Held W rb 1 (.int .i64 d))=>qsa A2 c2 l n d rb B w W hs2 hb hB hrb r0 r1 hn hd (by omega) hia hap)
      rw [HF.out]
      clear h h2 h64 hchk hinc hia hap hn hd HF
      have HL:=Lib.hid (qs1 n d l)
      go_enter Try.func71,Try.ntmps71
      go_wp2_with (first | (go_at_call 72;refine (q.out _ (by (try simp only [qcy]);repeat (first | exact Bel.refl _ | assumption | refine qd7 ?_ _ | refine qd8 ?_ _ | refine Bel.ext ?_ _ | refine Bel.alloc ?_ _ | refine Bel.drewN ?_ _))).mono ?_;rintro e _ ⟨rfl,nx,rfl⟩) | (go_at_call 73;refine (q2.out _).mono ?_;rintro e _ ⟨rfl,nx,rfl⟩))
      refine (q3.out _ (by (try simp only [qcy]);repeat (first | exact Bel.refl _ | assumption | refine qd7 ?_ _ | refine qd8 ?_ _ | refine Bel.ext ?_ _ | refine Bel.alloc ?_ _ | refine Bel.drewN ?_ _))).mono ?_
      rintro e _ ⟨A2,c2,rfl,x2,rfl,own2⟩
      simp only [qcy] at own2 ⊢
      have own3:=own2.base_le (base':=w.heap.size+2) (by simp [go_sem])
      clear own2
      generalize hZ:((_:Beyond).and _).and x2=Z at own3 ⊢
      obtain ⟨W2,hW2⟩:∃ W2,ext ((w.alloc (.cells #[.slice A l.length c] 24)).alloc (.cells #[.int .i64 n,.int .i64 d] 26)) Z=W2:=⟨_,rfl⟩
      rw [hW2] at own3 ⊢
      have hb2:Bel w W2:=by rw [← hW2];exact (by (try simp only [qcy]);repeat (first | exact Bel.refl _ | assumption | refine qd7 ?_ _ | refine qd8 ?_ _ | refine Bel.ext ?_ _ | refine Bel.alloc ?_ _ | refine Bel.drewN ?_ _))
      have hb3:Bel ((w.alloc (.cells #[.slice A l.length c] 24)).alloc (.cells #[.int .i64 n,.int .i64 d] 26)) W2:=by rw [← hW2];exact q9y _ _
      have e1:(w.alloc (.cells #[.slice A l.length c] 24)).heap.size=w.heap.size+1:=by simp [go_sem]
      have r0:=Held.new (j:=0) hb3 rfl
      have r1:=Held.new (j:=1) hb3 rfl
      rw [e1] at r0 r1
      have q5:=q4.out A2 c2 (w.heap.size+1) (w.heap.size+2) W2 own3 hb2 (by omega) (by omega) r0 r1
      clear hW2 hZ q4 q3 q2 q r0 r1 hb3 own3
      go_wp2_with (go_at_call 90;refine q5.mono ?_;rintro e _ ⟨rfl,y,rfl,own4⟩)
      go_ret2
      refine ⟨A2,c2,?_,y,rfl,?_⟩
      · rw [HL.out];rfl
      · rw [HL.out];exact own4.base_le (by omega)
    · rw [show qsb l n d = ([], qeg n d) by unfold qsb; rw [if_neg (by simpa using h), if_pos h2]]
      have h2':(qeg n d != 0)=true:=by simpa using h2
      clear h h64 hchk hinc h2 hn hd
      go_enter Try.func71,Try.ntmps71
      go_wp2_with (first | (go_at_call 72;refine (q.out _ (by (try simp only [qcy]);repeat (first | exact Bel.refl _ | assumption | refine qd7 ?_ _ | refine qd8 ?_ _ | refine Bel.ext ?_ _ | refine Bel.alloc ?_ _ | refine Bel.drewN ?_ _))).mono ?_;rintro e _ ⟨rfl,nx,rfl⟩) | (go_at_call 73;refine (q2.out _).mono ?_;rintro e _ ⟨rfl,nx,rfl⟩))
      go_ret2
      exact ⟨none,0,rfl,qgq (by (try simp only [qcy]);repeat (first | exact Bel.refl _ | assumption | refine qd7 ?_ _ | refine qd8 ?_ _ | refine Bel.ext ?_ _ | refine Bel.alloc ?_ _ | refine Bel.drewN ?_ _)) (Own.nil_ _ _ _ _) (Bel.refl _)⟩
  · rw [show qsb l n d = ([], qhk l) by unfold qsb; rw [if_pos h]]
    have h':(qhk l != 0)=true:=by simpa using h
    clear h hn hd
    go_enter Try.func71,Try.ntmps71
    go_wp2_with (first | (go_at_call 72;refine (q.out _ (by (try simp only [qcy]);repeat (first | exact Bel.refl _ | assumption | refine qd7 ?_ _ | refine qd8 ?_ _ | refine Bel.ext ?_ _ | refine Bel.alloc ?_ _ | refine Bel.drewN ?_ _))).mono ?_;rintro e _ ⟨rfl,nx,rfl⟩))
    go_ret2
    exact ⟨none,0,rfl,qgq (by (try simp only [qcy]);repeat (first | exact Bel.refl _ | assumption | refine qd7 ?_ _ | refine qd8 ?_ _ | refine Bel.ext ?_ _ | refine Bel.alloc ?_ _ | refine Bel.drewN ?_ _)) (Own.nil_ _ _ _ _) (Bel.refl _)⟩
end Go.Proofs.Ytoakhncbmpdacaa

namespace Go.Pel
def qse (l:List Pt) (n d:Int):Int×Int:=if (qsb l n d).2≠0 then (0,(qsb l n d).2) else match (qsb l n d).1 with | []=>(0,42) | p :: _=>(p.id,0)
end Go.Pel
namespace Go.Proofs.Ytoakhncbmpdacaa
open Go.RowKit Go.Pel
set_option maxRecDepth 10000 in
set_option maxHeartbeats 2000000 in
theorem qsf (A:Option Addr) (c:Nat) (l:List Pt) (n d:Int) (w:World) (hn:-9223372036854775808≤n∧n≤9223372036854775807) (hd:-9223372036854775808≤d∧d≤9223372036854775807) (hs:Sl w 3 A l.length c (vp l)) (hn0:A=none→c=0) :
    Calls Try.prog 42 #[.agg #[.slice A l.length c],.agg #[.int .i64 n,.int .i64 d]] w fun e w'=>e=.returned (.tuple #[.int .i64 (qse l n d).1,.int .i64 (qse l n d).2])∧∃ x,w'=ext w x:=by
  have q:=Lib.hid (fun W hb=>qsd A c l n d W hn hd (hs.bel (w':=W) hb) hn0)
  unfold qse
  generalize qsb l n d=F at q ⊢
  obtain ⟨m,v⟩:=F
  simp only at q ⊢
  by_cases h:v=0
  · subst h
    rw [if_neg (by decide)]
    cases m with
    | nil =>
      clear hn hd
      go_enter Try.func42,Try.ntmps42
      go_wp2_with (go_at_call 71;refine (q.out _ (by (try simp only [qcy]);repeat (first | exact Bel.refl _ | assumption | refine qd7 ?_ _ | refine qd8 ?_ _ | refine Bel.ext ?_ _ | refine Bel.alloc ?_ _ | refine Bel.drewN ?_ _))).mono ?_;rintro e _ ⟨A2,c2,rfl,x2,rfl,own2⟩)
      go_ret2
      exact ⟨rfl,ext_of (by (try simp only [qcy]);repeat (first | exact Bel.refl _ | assumption | refine qd7 ?_ _ | refine qd8 ?_ _ | refine Bel.ext ?_ _ | refine Bel.alloc ?_ _ | refine Bel.drewN ?_ _))⟩
    | cons p r =>
      clear hn hd
      go_enter Try.func42,Try.ntmps42
      go_wp2_with (go_at_call 71;refine (q.out _ (by (try simp only [qcy]);repeat (first | exact Bel.refl _ | assumption | refine qd7 ?_ _ | refine qd8 ?_ _ | refine Bel.ext ?_ _ | refine Bel.alloc ?_ _ | refine Bel.drewN ?_ _))).mono ?_;rintro e _ ⟨A2,c2,rfl,x2,rfl,own2⟩;have s2:=own2.sl;have hlen:(0:Int)<((p :: r).length:Int):=(Int.ofNat_lt.2 (Nat.succ_pos _));have hz:(((p :: r).length:Int) == 0)=false:=(by rw [beq_eq_false_iff_ne];omega);obtain ⟨b,o,rfl,hb2⟩:=s2.at_ (by simp);obtain ⟨r0,_,_⟩:=qhh s2 (i:=0) (p:=p) rfl;rw [Nat.zero_mul,Nat.add_zero] at r0;clear own2 s2)
      go_ret2
      exact ⟨rfl,ext_of (by (try simp only [qcy]);repeat (first | exact Bel.refl _ | assumption | refine qd7 ?_ _ | refine qd8 ?_ _ | refine Bel.ext ?_ _ | refine Bel.alloc ?_ _ | refine Bel.drewN ?_ _))⟩
  · rw [if_pos h]
    have h':(v != 0)=true:=by simpa using h
    clear h hn hd
    go_enter Try.func42,Try.ntmps42
    go_wp2_with (go_at_call 71;refine (q.out _ (by (try simp only [qcy]);repeat (first | exact Bel.refl _ | assumption | refine qd7 ?_ _ | refine qd8 ?_ _ | refine Bel.ext ?_ _ | refine Bel.alloc ?_ _ | refine Bel.drewN ?_ _))).mono ?_;rintro e _ ⟨A2,c2,rfl,x2,rfl,own2⟩)
    go_ret2
    exact ⟨rfl,ext_of (by (try simp only [qcy]);repeat (first | exact Bel.refl _ | assumption | refine qd7 ?_ _ | refine qd8 ?_ _ | refine Bel.ext ?_ _ | refine Bel.alloc ?_ _ | refine Bel.drewN ?_ _))⟩
end Go.Proofs.Ytoakhncbmpdacaa

namespace Go.Pel
open Go
end Go.Pel
namespace Go.Proofs.Ytoakhncbmpdacaa
open Go.RowKit Go.Pel
end Go.Proofs.Ytoakhncbmpdacaa

namespace Go.Pel
open Go Go.RowKit
end Go.Pel
namespace Go.Proofs.Ytoakhncbmpdacaa
open Go.RowKit Go.Pel
end Go.Proofs.Ytoakhncbmpdacaa

namespace Go.Pel
open Go Go.RowKit
def qsv (l:List Pt) (n d:Int):Int:=if qhk l≠0 then qhk l else qeg n d
end Go.Pel
namespace Go.Proofs.Ytoakhncbmpdacaa
open Go.RowKit Go.Pel
set_option maxRecDepth 10000 in
set_option maxHeartbeats 2000000 in
theorem qsx (A:Option Addr) (c:Nat) (l:List Pt) (n d:Int) (w:World) (hn:-9223372036854775808≤n∧n≤9223372036854775807) (hd:-9223372036854775808≤d∧d≤9223372036854775807) (hs:Sl w 3 A l.length c (vp l)) (hl:l.length≤1000000) :
    Calls Try.prog 47 #[.agg #[.slice A l.length c],.agg #[.int .i64 n,.int .i64 d]] w fun e w'=>e=.returned (.int .i64 (qsv l n d))∧∃ x,w'=ext w x:=by
  have q:=Lib.hid (fun W hb=>qnd A c l W (hs.bel (w':=W) hb))
  have q2:=Lib.hid (fun W=>qll n d W hn hd)
  unfold qsv
  generalize qhk l=v at q ⊢
  by_cases h:v=0
  · subst h
    rw [if_neg (by decide)]
    clear hn hd
    go_enter Try.func47,Try.ntmps47
    go_wp2_with (first | (go_at_call 67;refine (q.out _ (by (try simp only [qcy]);repeat (first | exact Bel.refl _ | assumption | refine qd7 ?_ _ | refine qd8 ?_ _ | refine Bel.ext ?_ _ | refine Bel.alloc ?_ _ | refine Bel.drewN ?_ _))).mono ?_;rintro e _ ⟨rfl,nx,rfl⟩) | (go_at_call 68;refine (q2.out _).mono ?_;rintro e _ ⟨rfl,nx,rfl⟩))
    (go_ret;exact ⟨qle (by rfl),ext_of (by (try simp only [qcy]);repeat (first | exact Bel.refl _ | assumption | refine qd7 ?_ _ | refine qd8 ?_ _ | refine Bel.ext ?_ _ | refine Bel.alloc ?_ _ | refine Bel.drewN ?_ _))⟩)
  · rw [if_pos h]
    have h':(v != 0)=true:=by simpa using h
    clear h hn hd
    go_enter Try.func47,Try.ntmps47
    go_wp2_with (first | (go_at_call 67;refine (q.out _ (by (try simp only [qcy]);repeat (first | exact Bel.refl _ | assumption | refine qd7 ?_ _ | refine qd8 ?_ _ | refine Bel.ext ?_ _ | refine Bel.alloc ?_ _ | refine Bel.drewN ?_ _))).mono ?_;rintro e _ ⟨rfl,nx,rfl⟩) | (go_at_call 68;refine (q2.out _).mono ?_;rintro e _ ⟨rfl,nx,rfl⟩))
    (go_ret;exact ⟨qle (by rfl),ext_of (by (try simp only [qcy]);repeat (first | exact Bel.refl _ | assumption | refine qd7 ?_ _ | refine qd8 ?_ _ | refine Bel.ext ?_ _ | refine Bel.alloc ?_ _ | refine Bel.drewN ?_ _))⟩)
end Go.Proofs.Ytoakhncbmpdacaa

namespace Go.Proofs.Ytoakhncbmpdacaa
open Go.RowKit Go.Pel
end Go.Proofs.Ytoakhncbmpdacaa

namespace Go.Pel
open Go Go.RowKit
end Go.Pel
namespace Go.Proofs.Ytoakhncbmpdacaa
open Go.RowKit Go.Pel
end Go.Proofs.Ytoakhncbmpdacaa

namespace Go.Tx
open Go Go.Sort Go.RowKit Go.Proofs Go.Shelf
section
variable {τ:Row} (F:den τ×den τ×Unit→Option Int)
end
section
variable {P:Program} {ρ:Ren}
end
end Go.Tx

namespace Go.Proofs.Ytoakhncbmpdacaa
open Go Go.Tx Go.RowKit Go.Pel
end Go.Proofs.Ytoakhncbmpdacaa

namespace Go.Pel
open Go Go.Tx
theorem qtu (p q:Pt) (n d:Int):qlx p q n d=true↔(q.a*d+q.b*n<p.a*d+p.b*n)∨(q.a*d+q.b*n=p.a*d+p.b*n∧(q.b<p.b∨(q.b=p.b∧p.id<q.id))):=by
  have e:farD p q n d=(p.a*d+p.b*n) - (q.a*d+q.b*n):=by unfold farD;rw [Int.sub_mul,Int.sub_mul];omega
  unfold qlx
  rw [e]
  generalize p.a*d+p.b*n=P
  generalize q.a*d+q.b*n=Q
  repeat' split
  all_goals simp only [decide_eq_true_eq]
  all_goals omega
theorem qtx {p q:Pt} {n d:Int} (h:qlx p q n d=false):¬ ((q.a*d+q.b*n<p.a*d+p.b*n)∨(q.a*d+q.b*n=p.a*d+p.b*n∧(q.b<p.b∨(q.b=p.b∧p.id<q.id)))):=by
  intro k;rw [(qtu p q n d).2 k] at h;cases h
end Go.Pel

namespace Go.Proofs.Ytoakhncbmpdacaa
open Go Go.Tx Go.Pel Go.Proofs.Try
set_option maxRecDepth 100000
set_option maxHeartbeats 0
abbrev quj:List Pk:=[.row qks true,.row Rii true]
abbrev quk:Type:=qkt×Dii×Unit
abbrev qul:Type:=Int
def qum (r:qul):LV×List Ob:=(.int .i64 r,[])
def qun (F:quk→Option qul):Go.Tx.Spec:=⟨47,quj,qul,F,qum⟩
def qup (x:quk):Bool:=i64B x.2.1.1&&i64B x.2.1.2.1&&decide ((ptsL x.1.1).length≤1000000)
def quq (d:Nat) (x:quk):Option qul:=bif qup x then some (qsv (ptsL x.1.1) x.2.1.1 x.2.1.2.1) else none
theorem qur (d:Nat) (x:quk) (h:qup x=true):quq d x=some (qsv (ptsL x.1.1) x.2.1.1 x.2.1.2.1):=by unfold quq;rw [h];rfl
theorem qus (d:Nat):COK prog (qun (quq d)):=by
 refine qj0 (qj1 (fn:=f47) (by kernel_rfl) (by kernel_rfl) (by kernel_rfl)) fun x r hx w φ vs hφ hv=>?_
 have hx:quq d x=some r:=hx
 unfold quq at hx
 obtain ⟨hc,rfl⟩:=qkg hx
 have hv:VRs (Emb.fro φ) [.agg [.fz RP x.1.1],.agg [.int .i64 x.2.1.1,.int .i64 x.2.1.2.1]] vs:=hv
 obtain ⟨v0,vs,rfl,q0,hv⟩:=VRs.uncons hv
 obtain ⟨v1,rfl,q1⟩:=vrs1 hv
 obtain ⟨A0,c0,rfl,s0,z0⟩:=qkb hφ q0
 have r1:=qiu q1;subst r1
 unfold qup at hc
 simp only [Bool.and_eq_true] at hc
 obtain ⟨⟨h1,h2⟩,h3⟩:=hc
 replace h3:=of_decide_eq_true h3
 refine (qsx A0 c0 (ptsL x.1.1) x.2.1.1 x.2.1.2.1 w (qkd h1) (qkd h2) s0 h3).mono ?_
 rintro e w' ⟨rfl,y,rfl⟩
 exact qiy hφ (.int _ _) y
abbrev qut:List Pk:=[.row qks true,.row Rii true]
abbrev quu:Type:=qkt×Dii×Unit
abbrev quv:Type:=Int×Int
def quw (r:quv):LV×List Ob:=(.tup [.int .i64 r.1,.int .i64 r.2],[])
def qux (F:quu→Option quv):Go.Tx.Spec:=⟨42,qut,quv,F,quw⟩
def quy (x:quu):Bool:=i64B x.2.1.1&&i64B x.2.1.2.1
def quz (d:Nat) (x:quu):Option quv:=bif quy x then some ((qse (ptsL x.1.1) x.2.1.1 x.2.1.2.1).1,(qse (ptsL x.1.1) x.2.1.1 x.2.1.2.1).2) else none
theorem qv0 (d:Nat) (x:quu) (h:quy x=true):quz d x=some ((qse (ptsL x.1.1) x.2.1.1 x.2.1.2.1).1,(qse (ptsL x.1.1) x.2.1.1 x.2.1.2.1).2):=by unfold quz;rw [h];rfl
theorem qv1 (d:Nat):COK prog (qux (quz d)):=by
 refine qj0 (qj1 (fn:=f42) (by kernel_rfl) (by kernel_rfl) (by kernel_rfl)) fun x r hx w φ vs hφ hv=>?_
 have hx:quz d x=some r:=hx
 unfold quz at hx
 obtain ⟨hc,rfl⟩:=qkg hx
 have hv:VRs (Emb.fro φ) [.agg [.fz RP x.1.1],.agg [.int .i64 x.2.1.1,.int .i64 x.2.1.2.1]] vs:=hv
 obtain ⟨v0,vs,rfl,q0,hv⟩:=VRs.uncons hv
 obtain ⟨v1,rfl,q1⟩:=vrs1 hv
 obtain ⟨A0,c0,rfl,s0,z0⟩:=qkb hφ q0
 have r1:=qiu q1;subst r1
 unfold quy at hc
 simp only [Bool.and_eq_true] at hc
 obtain ⟨h1,h2⟩:=hc
 refine (qsf A0 c0 (ptsL x.1.1) x.2.1.1 x.2.1.2.1 w (qkd h1) (qkd h2) s0 z0).mono ?_
 rintro e w' ⟨rfl,y,rfl⟩
 exact qiy hφ (VR.tupL (VRs.cons (.int _ _) (VRs.cons (.int _ _) VRs.nil))) y
end Go.Proofs.Ytoakhncbmpdacaa

namespace Go.Proofs.Ytoakhncbmpdacaa
open Go Go.Tx Go.Proofs.Try
set_option maxRecDepth 100000
set_option maxHeartbeats 0
abbrev qv2:List Pk:=[.row qkv true]
abbrev qv3:Type:=qkw×Unit
abbrev qv4:Type:=List Di×Bool
def qv5 (r:qv4):LV×List Ob:=(.tup [.rs 0,.bool r.2],[.rows Ri r.1])
def qv6 (F:qv3→Option qv4):Go.Tx.Spec:=⟨49,qv2,qv4,F,qv5⟩
abbrev qv7:Type:=Unit
def qv8 (_d:Nat):qv7:=()
def qv9 (C:qv7):List Go.Tx.Spec:=[]
abbrev qva:Type:=Int×List Diii
def qvb (v:qva):St:=⟨[(0,.agg [i6 v.1,.fz Riii v.2])],[]⟩
abbrev qvc:Type:=Int×List Diii
def qvd (v:qvc):St:=⟨[(1,.ptr 0 0)],[.cells [i6 v.1,.fz Riii v.2]]⟩
def qve (C:qv7) (v:qva):Dt qvc:=(Dt.ret (v.1,v.2))
theorem qvf (C:qv7) (v:qva):treg (litT 39 tysT) (orc (qv9 C)) 62 (regO (qea f49) 0) false [(1,(.box [.any,.val Riii]))] (qvb v) some=(qve C v).eval fun y=>some (qvd y):=by kernel_rfl
abbrev qvg:Type:=Int×List Diii×List Di×List Di
def qvh (v:qvg):St:=⟨[(1,.ptr 0 0),(4,.rs 1),(5,.rs 2)],[.cells [i6 v.1,.fz Riii v.2.1],.rows Ri v.2.2.1,.rows Ri v.2.2.2]⟩
def qvi (C:qv7) (v:qvc):Dt qvg:=(Dt.ret (v.1,v.2,([]:List Di),([]:List Di)))
theorem qvj (C:qv7) (v:qvc):treg (litT 39 tysT) (orc (qv9 C)) 62 (regO (qea f49) 1) false [(1,(.box [.any,.val Riii])),(4,(.own Ri)),(5,(.own Ri))] (qvd v) some=(qvi C v).eval fun y=>some (qvh y):=by kernel_rfl
abbrev qvk:Type:=Int×List Diii×List Di×List Di×List Db
def qvl (v:qvk):St:=⟨[(1,.ptr 0 0),(4,.rs 1),(5,.rs 2),(6,.rs 3)],[.cells [i6 v.1,.fz Riii v.2.1],.rows Ri v.2.2.1,.rows Ri v.2.2.2.1,.rows Rb v.2.2.2.2]⟩
def qvm (C:qv7) (v:qvg):Dt qvk:=(Dt.ite (mkB (List.length v.2.1:Int) (List.length v.2.1:Int)) (Dt.ret (v.1,v.2.1,v.2.2.1,v.2.2.2,(List.replicate ((List.length v.2.1:Int)).toNat zb))) Dt.fail)
theorem qvn (C:qv7) (v:qvg):treg (litT 39 tysT) (orc (qv9 C)) 62 (regO (qea f49) 2) false [(1,(.box [.any,.val Riii])),(4,(.own Ri)),(5,(.own Ri)),(6,(.own Rb))] (qvh v) some=(qvm C v).eval fun y=>some (qvl y):=by kernel_rfl
abbrev qvo:Type:=Int×Int×List Diii×List Di×List Di×List Db
def qvp (v:qvo):St:=⟨[(1,.ptr 0 0),(4,.rs 1),(5,.rs 2),(6,.rs 3),(7,i6 v.1)],[.cells [i6 v.2.1,.fz Riii v.2.2.1],.rows Ri v.2.2.2.1,.rows Ri v.2.2.2.2.1,.rows Rb v.2.2.2.2.2]⟩
def qvq (C:qv7) (v:qvk):Dt qvo:=(Dt.ret (v.1,v.1,v.2.1,v.2.2.1,v.2.2.2.1,v.2.2.2.2))
theorem qvr (C:qv7) (v:qvk):treg (litT 39 tysT) (orc (qv9 C)) 62 (regO (qea f49) 3) false [(1,(.box [.any,.val Riii])),(4,(.own Ri)),(5,(.own Ri)),(6,(.own Rb)),(7,.any)] (qvl v) some=(qvq C v).eval fun y=>some (qvp y):=by kernel_rfl
abbrev qvs:Type:=Int×Bool×Int×List Diii×List Di×List Di×List Db
def qvt (v:qvs):St:=⟨[(1,.ptr 0 0),(4,.rs 1),(5,.rs 2),(6,.rs 3),(7,i6 v.1),(20,.bool v.2.1)],[.cells [i6 v.2.2.1,.fz Riii v.2.2.2.1],.rows Ri v.2.2.2.2.1,.rows Ri v.2.2.2.2.2.1,.rows Rb v.2.2.2.2.2.2]⟩
def qvu (C:qv7) (v:qvo):Dt qvs:=(Dt.ite (decide (v.1≥(0:Int))) (Dt.ret (v.1,true,v.2.1,v.2.2.1,v.2.2.2.1,v.2.2.2.2.1,v.2.2.2.2.2)) (Dt.ret (v.1,(decide ((List.length v.2.2.2.2.1:Int) > (0:Int))),v.2.1,v.2.2.1,v.2.2.2.1,v.2.2.2.2.1,v.2.2.2.2.2)))
theorem qvv (C:qv7) (v:qvo):treg (litT 39 tysT) (orc (qv9 C)) 62 (regO (qea f49) 4) false [(1,(.box [.any,.val Riii])),(4,(.own Ri)),(5,(.own Ri)),(6,(.own Rb)),(7,.any),(20,.any)] (qvp v) some=(qvu C v).eval fun y=>some (qvt y):=by kernel_rfl
abbrev qvw:Type:=Int×Bool×Int×List Diii×List Di×List Di×List Db
def qvx (v:qvw):St:=⟨[(1,.ptr 0 0),(4,.rs 1),(5,.rs 2),(6,.rs 3),(7,i6 v.1),(22,.bool v.2.1)],[.cells [i6 v.2.2.1,.fz Riii v.2.2.2.1],.rows Ri v.2.2.2.2.1,.rows Ri v.2.2.2.2.2.1,.rows Rb v.2.2.2.2.2.2]⟩
def qvy (C:qv7) (v:qvo):Dt qvw:=(Dt.ret (v.1,(decide (v.1≥(0:Int))),v.2.1,v.2.2.1,v.2.2.2.1,v.2.2.2.2.1,v.2.2.2.2.2))
theorem qvz (C:qv7) (v:qvo):treg (litT 39 tysT) (orc (qv9 C)) 62 (regO (qea f49) 5) false [(1,(.box [.any,.val Riii])),(4,(.own Ri)),(5,(.own Ri)),(6,(.own Rb)),(7,.any),(22,.any)] (qvp v) some=(qvy C v).eval fun y=>some (qvx y):=by kernel_rfl
abbrev qw0:Type:=Int×Bool×Int×List Diii×List Di×List Di×List Db
def qw1 (v:qw0):St:=⟨[(1,.ptr 0 0),(4,.rs 1),(5,.rs 2),(6,.rs 3),(7,i6 v.1),(32,.bool v.2.1)],[.cells [i6 v.2.2.1,.fz Riii v.2.2.2.1],.rows Ri v.2.2.2.2.1,.rows Ri v.2.2.2.2.2.1,.rows Rb v.2.2.2.2.2.2]⟩
def qw2 (C:qv7) (v:qvw):Dt qw0:=(Dt.ite (inB v.1 (List.length v.2.2.2.2.2.2)) (Dt.ret (v.1,(elt zb v.2.2.2.2.2.2 (v.1).toNat).1,v.2.2.1,v.2.2.2.1,v.2.2.2.2.1,v.2.2.2.2.2.1,v.2.2.2.2.2.2)) Dt.fail)
theorem qw3 (C:qv7) (v:qvw):treg (litT 39 tysT) (orc (qv9 C)) 62 (regO (qea f49) 7) false [(1,(.box [.any,.val Riii])),(4,(.own Ri)),(5,(.own Ri)),(6,(.own Rb)),(7,.any),(32,.any)] (qvx v) some=(qw2 C v).eval fun y=>some (qw1 y):=by kernel_rfl
abbrev qw4:Type:=Bool×List Di
def qw5 (v:qw4):St:=⟨[(2,.rs 0),(3,.bool v.1)],[.rows Ri v.2]⟩
def qw6 (C:qv7) (v:qw0):Dt qw4:=(Dt.ret (false,([]:List Di)))
theorem qw7 (C:qv7) (v:qw0):treg (litT 39 tysT) (orc (qv9 C)) 62 (regO (qea f49) 8) false [(2,(.own Ri)),(3,.any)] (qw1 v) some=(qw6 C v).eval fun y=>some (qw5 y):=by kernel_rfl
def qw8 (C:qv7) (v:qw0):Dt qvo:=(Dt.ite (apB (List.length v.2.2.2.2.2.1) (List.length ([(v.1,())]:List Di))) (Dt.ite (inB v.1 (List.length v.2.2.2.2.2.2)) (Dt.ret (v.1,v.2.2.1,v.2.2.2.1,v.2.2.2.2.1,(v.2.2.2.2.2.1++([(v.1,())]:List Di)),(List.set v.2.2.2.2.2.2 (v.1).toNat (true,())))) Dt.fail) Dt.fail)
theorem qw9 (C:qv7) (v:qw0):treg (litT 39 tysT) (orc (qv9 C)) 62 (regO (qea f49) 9) false [(1,(.box [.any,.val Riii])),(4,(.own Ri)),(5,(.own Ri)),(6,(.own Rb)),(7,.any)] (qw1 v) some=(qw8 C v).eval fun y=>some (qvp y):=by kernel_rfl
def qwa (C:qv7) (v:qvo):Dt qvo:=(Dt.ite (inB v.1 (List.length v.2.2.1)) (Dt.ret ((elt ziii v.2.2.1 (v.1).toNat).2.1,v.2.1,v.2.2.1,v.2.2.2.1,v.2.2.2.2.1,v.2.2.2.2.2)) Dt.fail)
theorem qwb (C:qv7) (v:qvo):treg (litT 39 tysT) (orc (qv9 C)) 62 (regO (qea f49) 6) false [(1,(.box [.any,.val Riii])),(4,(.own Ri)),(5,(.own Ri)),(6,(.own Rb)),(7,.any)] (qvp v) some=(qwa C v).eval fun y=>some (qvp y):=by kernel_rfl
def qwc (C:qv7) (v:qvw):Dt qvo:=(Dt.ite (inB (IntKind.wrap .i64 ((List.length v.2.2.2.2.2.1:Int) - (1:Int))) (List.length v.2.2.2.2.2.1)) (Dt.ite (decide (0≤(IntKind.wrap .i64 ((List.length v.2.2.2.2.2.1:Int) - (1:Int))))&&decide ((IntKind.wrap .i64 ((List.length v.2.2.2.2.2.1:Int) - (1:Int)))≤(List.length v.2.2.2.2.2.1:Int))) (Dt.ret ((elt zi v.2.2.2.2.2.1 ((IntKind.wrap .i64 ((List.length v.2.2.2.2.2.1:Int) - (1:Int)))).toNat).1,v.2.2.1,v.2.2.2.1,v.2.2.2.2.1,(List.take ((IntKind.wrap .i64 ((List.length v.2.2.2.2.2.1:Int) - (1:Int)))).toNat v.2.2.2.2.2.1),v.2.2.2.2.2.2)) Dt.fail) Dt.fail)
theorem qwd (C:qv7) (v:qvw):treg (litT 39 tysT) (orc (qv9 C)) 62 (regO (qea f49) 10) true [(1,(.box [.any,.val Riii])),(4,(.own Ri)),(5,(.own Ri)),(6,(.own Rb)),(7,.any)] (qvx v) some=(qwc C v).eval fun y=>some (qvp y):=by kernel_rfl
def qwe (C:qv7) (v:qvo):Dt qvo:=(Dt.ite (apB (List.length v.2.2.2.1) (List.length ([(v.1,())]:List Di))) (Dt.ret (v.1,v.2.1,v.2.2.1,(v.2.2.2.1++([(v.1,())]:List Di)),v.2.2.2.2.1,v.2.2.2.2.2)) Dt.fail)
theorem qwf (C:qv7) (v:qvo):treg (litT 39 tysT) (orc (qv9 C)) 62 (regO (qea f49) 11) false [(1,(.box [.any,.val Riii])),(4,(.own Ri)),(5,(.own Ri)),(6,(.own Rb)),(7,.any)] (qvp v) some=(qwe C v).eval fun y=>some (qvp y):=by kernel_rfl
def qwg (C:qv7) (v:qvo):Dt qvo:=(Dt.ite (inB v.1 (List.length v.2.2.1)) (Dt.ret ((elt ziii v.2.2.1 (v.1).toNat).2.2.1,v.2.1,v.2.2.1,v.2.2.2.1,v.2.2.2.2.1,v.2.2.2.2.2)) Dt.fail)
theorem qwh (C:qv7) (v:qvo):treg (litT 39 tysT) (orc (qv9 C)) 62 (regO (qea f49) 12) false [(1,(.box [.any,.val Riii])),(4,(.own Ri)),(5,(.own Ri)),(6,(.own Rb)),(7,.any)] (qvp v) some=(qwg C v).eval fun y=>some (qvp y):=by kernel_rfl
def qwi (d:Nat) (self1:(Int×Int×List Diii×List Di×List Di×List Db)→Option qv4) (self2:(Int×Int×List Diii×List Di×List Di×List Db)→Option qv4) (x2:Int×Int×List Diii×List Di×List Di×List Db):Option qv4 :=
 (qvy (qv8 d) x2).eval fun y5 =>
 bif y5.2.1 then ((qw2 (qv8 d) y5).eval fun y7 =>
 bif y7.2.1 then ((qw6 (qv8 d) y7).eval fun y8 =>
 some (y8.2,y8.1)) else ((qw8 (qv8 d) y7).eval fun y9 =>
 (qwa (qv8 d) y9).eval fun y6 =>
 self2 y6)) else ((qwc (qv8 d) y5).eval fun y10 =>
 (qwe (qv8 d) y10).eval fun y11 =>
 (qwg (qv8 d) y11).eval fun y12 =>
 self1 y12)
def qwj (C:qv7) (v:qvs):Dt qw4:=(Dt.ret (true,v.2.2.2.2.1))
theorem qwk (C:qv7) (v:qvs):treg (litT 39 tysT) (orc (qv9 C)) 62 (regO (qea f49) 13) false [(2,(.own Ri)),(3,.any)] (qvt v) some=(qwj C v).eval fun y=>some (qw5 y):=by kernel_rfl
def qwl (d:Nat) (self1:(Int×Int×List Diii×List Di×List Di×List Db)→Option qv4) (x1:Int×Int×List Diii×List Di×List Di×List Db):Option qv4 :=
 (qvu (qv8 d) x1).eval fun y4 =>
 bif y4.2.1 then (iter (qwi d self1) d (y4.1,y4.2.2.1,y4.2.2.2.1,y4.2.2.2.2.1,y4.2.2.2.2.2.1,y4.2.2.2.2.2.2)) else ((qwj (qv8 d) y4).eval fun y13 =>
 some (y13.2,y13.1))
def qwm (d:Nat) (x:qv3):Option qv4 :=
 (qve (qv8 d) (x.1.1,x.1.2.1)).eval fun y0 =>
 (qvi (qv8 d) y0).eval fun y1 =>
 (qvm (qv8 d) y1).eval fun y2 =>
 (qvq (qv8 d) y2).eval fun y3 =>
 iter (qwl d ) d y3
theorem qwn (d:Nat):COK prog (qv6 (qwm d)):=by
 have hm:prog.follows .mixedOrders=true:=mixed
 have hT:=q1y tys 39
 have hC0:OrcOK prog (orc (qv9 (qv8 d))):=qe4 (by
  intro S hS
  simp only [qv9,List.mem_cons,List.not_mem_nil,or_false] at hS
  all_goals first | cases hS | exact hS.elim)
 have hC:OrcOK prog (orc (qv9 (qv8 d))):=hC0
 refine q9t (c:=qea f49) (fn:=f49) hT (by kernel_rfl) (by kernel_rfl) (by decide) fun x r h w0 φ0 Q hend=>?_
 replace h:qwm d x=some r:=h
 unfold qwm at h
 show Run prog w0 φ0 62 (qea f49) ⟨[(0,.agg [.int .i64 x.1.1,.fz Riii x.1.2.1])],[]⟩ Q
 refine q344 hm hT hC (qvf (qv8 d) (x.1.1,x.1.2.1)) h fun y0 h=>?_
 refine q344 hm hT hC (qvj (qv8 d) y0) h fun y1 h=>?_
 refine q344 hm hT hC (qvn (qv8 d) y1) h fun y2 h=>?_
 refine q9d ?_
 refine q344 hm hT hC (qvr (qv8 d) y2) h fun y3 h=>?_
 refine q9e ?_
 refine q9j (G:=iter (qwl d )) (S:=(fun x1=>⟨[(1,.ptr 0 0),(4,.rs 1),(5,.rs 2),(6,.rs 3),(7,i6 x1.1)],[.cells [i6 x1.2.1,.fz Riii x1.2.2.1],.rows Ri x1.2.2.2.1,.rows Ri x1.2.2.2.2.1,.rows Rb x1.2.2.2.2.2]⟩:Int×Int×List Diii×List Di×List Di×List Db→St)) (fun _=>rfl) ?_ d _ h
 intro n1 x1 h K1 hn1
 replace h:qwl d  (iter (qwl d ) n1) x1=some r:=h
 generalize iter (qwl d ) n1=self1 at h hn1
 unfold qwl at h
 refine q9d ?_
 refine q344 hm hT hC (qvv (qv8 d) x1) h fun y4 h=>?_
 refine q9h (v:=y4.2.1) (by kernel_rfl) h ?_ ?_
 ·
  intro h
  refine q99 (q8z (q9e (q9d (q9e ?_))))
  refine qee (s:=⟨[(1,.ptr 0 0),(4,.rs 1),(5,.rs 2),(6,.rs 3),(7,.int .i64 y4.1)],[.cells [.int .i64 y4.2.2.1,.fz Riii y4.2.2.2.1],.rows Ri y4.2.2.2.2.1,.rows Ri y4.2.2.2.2.2.1,.rows Rb y4.2.2.2.2.2.2]⟩) [20] (by kernel_rfl) ?_
  refine q9j (G:=iter (qwi d self1)) (S:=(fun x2=>⟨[(1,.ptr 0 0),(4,.rs 1),(5,.rs 2),(6,.rs 3),(7,i6 x2.1)],[.cells [i6 x2.2.1,.fz Riii x2.2.2.1],.rows Ri x2.2.2.2.1,.rows Ri x2.2.2.2.2.1,.rows Rb x2.2.2.2.2.2]⟩:Int×Int×List Diii×List Di×List Di×List Db→St)) (fun _=>rfl) ?_ d _ h
  intro n2 x2 h K2 hn2
  replace h:qwi d self1 (iter (qwi d self1) n2) x2=some r:=h
  generalize iter (qwi d self1) n2=self2 at h hn2
  unfold qwi at h
  refine q9d ?_
  refine q344 hm hT hC (qvz (qv8 d) x2) h fun y5 h=>?_
  refine q9h (v:=y5.2.1) (by kernel_rfl) h ?_ ?_
  ·
   intro h
   refine q99 (q8z (q9d (q9e (q9d ?_))))
   refine q344 hm hT hC (qw3 (qv8 d) y5) h fun y7 h=>?_
   refine q9h (v:=y7.2.1) (by kernel_rfl) h ?_ ?_
   ·
    intro h
    refine q344 hm hT hC (qw7 (qv8 d) y7) h fun y8 h=>?_
    refine q9c (q91 (q93 (q91 (q91 (q93 (q91 (q93 (q91 (q93 (q91 ?_))))))))))
    cases h
    exact (hend _ (by kernel_rfl)).2
   ·
    intro h
    refine q99 (q8z ?_)
    refine q9i hm hT hC (qw9 (qv8 d) y7) h ?_
    intro y9 h
    refine q92 (q8z ?_)
    refine q9i hm hT hC (qwb (qv8 d) y9) h ?_
    intro y6 h
    exact hn2 _ h
  ·
   intro h
   refine q9b (q90 (q90 (q94 (q8z ?_))))
   refine q344 hm hT hC (qwd (qv8 d) y5) h fun y10 h=>?_
   refine q344 hm hT hC (qwf (qv8 d) y10) h fun y11 h=>?_
   refine q9i hm hT hC (qwh (qv8 d) y11) h ?_
   intro y12 h
   refine q92 ?_
   exact hn1 _ h
 ·
  intro h
  refine q9b (q90 (q90 (q94 (q8z ?_))))
  refine q344 hm hT hC (qwk (qv8 d) y4) h fun y13 h=>?_
  refine q9c ?_
  cases h
  exact (hend _ (by kernel_rfl)).2
end Go.Proofs.Ytoakhncbmpdacaa
