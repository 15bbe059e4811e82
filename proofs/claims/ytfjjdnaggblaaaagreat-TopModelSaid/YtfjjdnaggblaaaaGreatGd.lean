/- Walks of the references; the orders agree; examples. -/
import Derived.Deep.DeepCutAuto
import Derived.Deep.LoopGhost
import Derived.Deep.RegionHeld3
import Derived.Laws.MakeOwn
import Derived.Test.YtfjjdnaggblaaaaGreatRows
import Derived.IntWalk
import Derived.Shelf.Bits.Mul64
import Derived.Test.YtfjjdnaggblaaaaGreatProg
import Derived.Shelf.Spec.BitsCarry
import Derived.Outline
import Derived.Shelf.SlSortCmp.NoneTotal
import Derived.Sort.Statements
import Derived.Shelf.SlSortCmp.Insertion
import Derived.Test.YtfjjdnaggblaaaaGreatGc
set_option linter.unusedSimpArgs false
set_option linter.unusedVariables false
namespace Go
end Go
namespace Go
open RowKit
theorem Box.here {W:World} {cs:Array Value} {e:TypeId} {b:Nat} (hb:b=W.heap.size):Box (W.alloc (.cells cs e)) b cs:=Box.new (Bel.refl _) hb
theorem Box.alloc {W:World} {cs:Array Value} {b:Nat} {o:Obj} (h:Box W b cs):Box (W.alloc o) b cs:=h.bel ((Bel.refl _).alloc _)
theorem Box.ext {W:World} {cs:Array Value} {b:Nat} {x:Beyond} (h:Box W b cs):Box (ext W x) b cs:=h.bel (qai _ _)
theorem Box.drew {W:World} {cs:Array Value} {b:Nat} (h:Box W b cs):Box W.drew b cs:=h.bel (Bel.refl _).drew
theorem Own.here {W:World} {base:Nat} {cs:Array Value} {e:TypeId} {size n b:Nat} (hbk:b=W.heap.size) (hb:base<=b) (hn:n<=1000000) (hs:cs.size=n*size):Own (W.alloc (.cells cs e)) base e size (some ⟨b,0,none⟩) n n cs.toList:=by
 subst hbk
 exact World.ownsRow_lit W cs n hb (Nat.le_trans hn (by unfold maxLen;decide)) hs
theorem Own.ext' {W:World} {base:Nat} {xs:List Value} {e:TypeId} {size n c:Nat} {A:Option Addr} {x:Beyond} (h:Own W base e size A n c xs):Own (Go.ext W x) base e size A n c xs:=h.ext x
theorem qp2 {W:World} {b g o:Nat} {u:Value} (hne:b≠g):(W.setCell ⟨b,o,none⟩ u).heap[g]?=W.heap[g]?:=by
 unfold World.setCell
 simp only[Array.getElem?_modify,if_neg hne]
theorem Box.other {W:World} {b g:Nat} {cs:Array Value} (h:Box W g cs) (o:Nat) (u:Value) (hne:b≠g):Box (W.setCell ⟨b,o,none⟩ u) g cs:=by
 refine⟨by have:=h.lt;simpa using this,fun j v hv=>?_,fun j=>?_⟩
 ·rw[← h.eq j v hv];exact World.cell?_of_block (qp2 hne)
 ·rw[← h.fr j];exact World.frozen?_of_block (qp2 hne)
section
variable {P:Program} {ops:Array Oper} {o:Oper} {a:Act} {K:Act->World->Prop} {Q:Exit->Act->World->Prop} {E:Prop}
end
end Go
namespace Go.Tx
open Go Go.Pel
def unI (l:List Int):List TI1:=l.map toI
def idsI (l:List TI1):List Int:=l.map fun x=>x.1
def ptsL (l:List TP):List Pt:=l.map ofP
theorem qpa (l:List Int):idsI (unI l)=l:=by
 unfold idsI unI;rw[List.map_map];exact List.map_id _
theorem qpc (l:List Int):(unI l).length=l.length:=List.length_map _
theorem qpe (l:List TP):(ptsL l).length=l.length:=List.length_map _
theorem qpf (l:List Int):qnn RI (unI l)=vi l:=by rw[qnp];exact congrArg vi (qpa l)
theorem qpg {φ:Nat->Option Obj} {w:World} (hφ:∀ k ob,φ k=some ob->w.heap[k]?=some ob) {l:List TI1} {v:Value} (hv:VR (Emb.fro φ) (.fz RI l) v):∃ A c,v=.slice A (idsI l).length c/\Sl w 1 A (idsI l).length c (vi (idsI l))/\(A=none->c=0):=qny hφ hv
theorem qph {φ:Nat->Option Obj} {w:World} (hφ:∀ k ob,φ k=some ob->w.heap[k]?=some ob) {l:List TP} {v:Value} (hv:VR (Emb.fro φ) (.agg [.fz RP l]) v):∃ A c,v=.agg #[.slice A (ptsL l).length c]/\Sl w 3 A (ptsL l).length c (vp (ptsL l))/\(A=none->c=0):=qnx hφ hv
def i64B (n:Int):Bool:=decide (-9223372036854775808<=n)&&decide (n<=9223372036854775807)
theorem qpj {n:Int} (h:i64B n=true):-9223372036854775808<=n/\n<=9223372036854775807:=by
 unfold i64B at h;simpa using h
def qpk (l:List Int):Bool:=l.all i64B
theorem qpl {l:List Int} (h:qpk l=true):∀ x∈l,-9223372036854775808<=x/\x<=9223372036854775807:=fun x hx=>qpj (List.all_eq_true.1 h x hx)
theorem qpm {α:Type} {c:Bool} {a r:α} (h:(bif c then some a else none)=some r):c=true/\a=r:=by
 cases c with
 | true=>injection h with h;exact⟨rfl,h⟩
 | false=>cases h
theorem qpn {w:World} {b:Nat}:∀ (τ:Row),qdu τ=true->∀ (x:den τ) (o:Nat),(∀ (j:Nat) u,(qnm τ x)[j]?=some u->w.cell? ⟨b,o+j,none⟩=some u)->RowF (fun k=>w.heap[k]?) τ x b o
 | .nil,_,_,_,_=>trivial
 | .int k r,h,x,o,hc=>⟨by
   have:=hc 0 _ (by rw[qnm];rfl)
   rw[Nat.add_zero,qg]at this
   cases hb:w.heap[b]? with
   | none=>rw[hb]at this;cases this
   | some ob=>rw[hb]at this;exact⟨ob,hb,this⟩,qpn r h x.2 (o+1) fun j u hu=>by rw[show o+1+j=o+(j+1) by omega];exact hc (j+1) u (by rw[qnm];simpa using hu)⟩
 | .bool r,h,x,o,hc=>⟨by
   have:=hc 0 _ (by rw[qnm];rfl)
   rw[Nat.add_zero,qg]at this
   cases hb:w.heap[b]? with
   | none=>rw[hb]at this;cases this
   | some ob=>rw[hb]at this;exact⟨ob,hb,this⟩,qpn r h x.2 (o+1) fun j u hu=>by rw[show o+1+j=o+(j+1) by omega];exact hc (j+1) u (by rw[qnm];simpa using hu)⟩
 | .sl _ r,h,_,_,_=>by cases h
theorem qpo {τ:Row} (h:qdu τ=true):∀ (xs:List (den τ)) (i:Nat) x,xs[i]?=some x->∀ (j:Nat) u,(qnm τ x)[j]?=some u->(qnn τ xs)[i*τ.size+j]?=some u
 | [],i,x,hx,j,u,hu=>by simp at hx
 | y::ys, 0, x, hx, j, u, hu => by
  simp only[List.getElem?_cons_zero,Option.some.injEq]at hx;subst hx
  rw[qnn,Nat.zero_mul,Nat.zero_add]
  have hj:=(List.getElem?_eq_some_iff.1 hu).1
  rw[List.getElem?_append_left hj];exact hu
 | y::ys, i + 1, x, hx, j, u, hu => by
  rw[qnn]
  have hl:=qnq τ h y
  rw[List.getElem?_append_right (by rw[hl,Nat.succ_mul];omega),hl,show (i+1)*τ.size+j-τ.size=i*τ.size+j by rw[Nat.succ_mul];omega]
  exact qpo h ys i x (by simpa using hx) j u hu
theorem sl_fz {w:World} {τ:Row} (h:qdu τ=true) {xs:List (den τ)} {A:Option Addr} {n c:Nat} {vals:List Value} (hn:xs.length=n) (hv:qnn τ xs=vals) (hs:Sl w τ.size A n c vals) (h0:A=none->c=0):VR (Emb.fro fun k=>w.heap[k]?) (.fz τ xs) (.slice A n c):=by
 subst hn;subst hv
 refine .fz ⟨A,c,rfl,hs.1,h0,fun i x hx=>?_⟩
 have hi:=(List.getElem?_eq_some_iff.1 hx).1
 obtain⟨b,o,hA,_,hc⟩:=hs.2.2 (by omega)
 refine⟨b,o,hA,qpn τ h x _ fun j u hu=>?_⟩
 rw[Nat.add_assoc]
 exact hc _ u (qpo h xs i x hx j u hu)
def toPs (l:List Pt):List TP:=l.map toP
theorem toPs_len (l:List Pt):(toPs l).length=l.length:=List.length_map _
theorem qpp (l:List Pt):ptsL (toPs l)=l:=by unfold ptsL toPs;rw[List.map_map];exact List.map_id _
theorem valsL_toP (l:List Pt):qnn RP (toPs l)=vp l:=(qno (toPs l)).trans (congrArg vp (qpp l))
theorem qpt {w:World} (n d:Int):VR (Emb.fro fun k=>w.heap[k]?) (.agg [.int .i64 n,.int .i64 d]) (.agg #[.int .i64 n,.int .i64 d]):=VR.aggL (VRs.cons (.int _ _) (VRs.cons (.int _ _) VRs.nil))
end Go.Tx
namespace Go.Proofs.YtfjjdnaggblaaaaGreat
open Go.RowKit Go.Pel
theorem qpv {k:IntKind} {a b:Int} (h:a=b):Ending.returned (.int k a)=.returned (.int k b):=by rw[h]
theorem qpw {a b:Bool} (h:a=b):Ending.returned (.bool a)=.returned (.bool b):=by rw[h]
set_option maxHeartbeats 400000 in
theorem qpx (n:Int) (w:World) (h:-9223372036854775808<=n/\n<=9223372036854775807) :
  Calls Tryz.prog 77 #[.int .i64 n] w fun e w'=>e=.returned (.int .u64 n.natAbs)/\∃ x,w'=ext w x:=by
 obtain⟨h1,h2⟩:=h
 go_enter Tryz.func77,Tryz.ntmps77
 go_wp2
 all_goals (go_ret;exact⟨qpv (by first | (simp only[IntKind.wrap_u64];omega) | omega),ext_of (Bel.refl _)⟩)
set_option maxHeartbeats 400000 in
theorem qpy (n:Int) (w:World) (h:-9223372036854775808<=n/\n<=9223372036854775807) :
  Calls Tryz.prog 57 #[.int .i64 n] w fun e w'=>e=.returned (.int .u64 n.natAbs)/\∃ x,w'=ext w x:=by
 obtain⟨h1,h2⟩:=h
 go_enter Tryz.func57,Tryz.ntmps57
 go_wp2
 all_goals (go_ret;exact⟨qpv (by first | (simp only[IntKind.wrap_u64];omega) | omega),ext_of (Bel.refl _)⟩)
set_option maxHeartbeats 400000 in
theorem qpz (a b:Nat) (w:World) (ha:a<18446744073709551616) (hb:b<18446744073709551616) :
  Calls Tryz.prog 76 #[.int .u64 a,.int .u64 b] w fun e w'=>e=.returned (.int .u64 (Nat.gcd a b))/\∃ x,w'=ext w x:=by
 go_enter Tryz.func76,Tryz.ntmps76
 go_wp2
 go_loopw [0,1] (fun x y wr=>∃ x0 y0:Nat,x=.int .u64 x0/\y=.int .u64 y0/\x0<18446744073709551616/\y0<18446744073709551616/\Nat.gcd x0 y0=Nat.gcd a b/\∃ x,wr=ext w x) (fun _ y _=>(intOf y).toNat)
 case atStart=>exact⟨a,b,rfl,rfl,ha,hb,rfl,ext_of (Bel.refl _)⟩
 case round =>
  obtain⟨x0,y0,rfl,rfl,hx,hy,hg,x,rfl⟩:=hrel
  have HG:=Lib.hid hg;clear hg
  by_cases hlt:0<y0
  ·go_wp2
   ((first | refine RegC.wp_region_ext1 (by kernel_rfl) (by kernel_rfl) ?_ | refine RegC.wp_region_ext0 (by kernel_rfl) (by kernel_rfl) ?_);(repeat (any_goals (first | go_big_quiet_step (fail) | (refine RegC.wpQuiet_split rfl rfl (fun hb=>?_) (fun hb=>?_)<;>simp only[hb]))));all_goals (refine wpQuiet_nil ?_;rintro _ ⟨nq,rfl⟩))
   go_wp2
   go_roundw
   case rel=>exact⟨y0,x0%y0,rfl,by simp,hy,Nat.lt_of_lt_of_le (Nat.mod_lt _ hlt) (by omega),by rw[← HG.out,Nat.gcd_comm x0 y0,Nat.gcd_rec y0 x0,Nat.gcd_comm],_,rfl⟩
   case measure=>simp[intOf];exact Nat.mod_lt _ hlt
  ·go_wp2
   go_ret
   obtain rfl:y0=0:=by omega
   exact⟨qpv (by rw[← HG.out];simp),_,rfl⟩
set_option maxHeartbeats 400000 in
theorem qq0 (a b:Nat) (w:World) (ha:a<18446744073709551616) (hb:b<18446744073709551616) :
  Calls Tryz.prog 56 #[.int .u64 a,.int .u64 b] w fun e w'=>e=.returned (.int .u64 (Nat.gcd a b))/\∃ x,w'=ext w x:=by
 go_enter Tryz.func56,Tryz.ntmps56
 go_wp2
 go_loopw [0,1] (fun x y wr=>∃ x0 y0:Nat,x=.int .u64 x0/\y=.int .u64 y0/\x0<18446744073709551616/\y0<18446744073709551616/\Nat.gcd x0 y0=Nat.gcd a b/\∃ x,wr=ext w x) (fun _ y _=>(intOf y).toNat)
 case atStart=>exact⟨a,b,rfl,rfl,ha,hb,rfl,ext_of (Bel.refl _)⟩
 case round =>
  obtain⟨x0,y0,rfl,rfl,hx,hy,hg,x,rfl⟩:=hrel
  have HG:=Lib.hid hg;clear hg
  by_cases hlt:0<y0
  ·have hn:((y0:Int) != 0)=true:=by rw[bne_iff_ne];omega
   go_wp2
   ((first | refine RegC.wp_region_ext1 (by kernel_rfl) (by kernel_rfl) ?_ | refine RegC.wp_region_ext0 (by kernel_rfl) (by kernel_rfl) ?_);(repeat (any_goals (first | go_big_quiet_step (fail) | (refine RegC.wpQuiet_split rfl rfl (fun hb=>?_) (fun hb=>?_)<;>simp only[hb]))));all_goals (refine wpQuiet_nil ?_;rintro _ ⟨nq,rfl⟩))
   go_wp2
   go_roundw
   case rel=>exact⟨y0,x0%y0,rfl,by simp,hy,Nat.lt_of_lt_of_le (Nat.mod_lt _ hlt) (by omega),by rw[← HG.out,Nat.gcd_comm x0 y0,Nat.gcd_rec y0 x0,Nat.gcd_comm],_,rfl⟩
   case measure=>simp[intOf];exact Nat.mod_lt _ hlt
  ·obtain rfl:y0=0:=by omega
   go_wp2
   go_ret
   exact⟨qpv (by rw[← HG.out];simp),_,rfl⟩
set_option maxHeartbeats 400000 in
theorem qq1 (n d:Int) (w:World) (h:-9223372036854775808<=n/\n<=9223372036854775807) (h':-9223372036854775808<=d/\d<=9223372036854775807) :
  Calls Tryz.prog 27 #[.agg #[.int .i64 n,.int .i64 d]] w fun e w'=>e=.returned (.int .i64 (qjo n d))/\∃ x,w'=ext w x:=by
 obtain⟨h1,h2⟩:=h
 obtain⟨h3,h4⟩:=h'
 by_cases c1:d<1
 ·have e1:=Lib.hid (qjp (n:=n) c1)
  go_enter Tryz.func27,Tryz.ntmps27
  go_wp2
  ((first | refine RegC.wp_region_ext1 (by kernel_rfl) (by kernel_rfl) ?_ | refine RegC.wp_region_ext0 (by kernel_rfl) (by kernel_rfl) ?_);(repeat (any_goals (first | go_big_quiet_step (fail) | (refine RegC.wpQuiet_split rfl rfl (fun hb=>?_) (fun hb=>?_)<;>simp only[hb]))));all_goals (refine wpQuiet_nil ?_;rintro _ ⟨nq,rfl⟩))
  go_wp2
  go_ret
  exact⟨qpv e1.out.symm,ext_of (((Bel.refl _).alloc _).ext _)⟩
 ·have c1':decide (d<1)=false:=by simpa using c1
  by_cases c2:n=-9223372036854775808
  ·subst c2
   go_enter Tryz.func27,Tryz.ntmps27
   go_wp2
   ((first | refine RegC.wp_region_ext1 (by kernel_rfl) (by kernel_rfl) ?_ | refine RegC.wp_region_ext0 (by kernel_rfl) (by kernel_rfl) ?_);(repeat (any_goals (first | go_big_quiet_step (fail) | (refine RegC.wpQuiet_split rfl rfl (fun hb=>?_) (fun hb=>?_)<;>simp only[hb]))));all_goals (refine wpQuiet_nil ?_;rintro _ ⟨nq,rfl⟩))
   go_wp2
   go_ret
   exact⟨qpv qjq.symm,ext_of (((Bel.refl _).alloc _).ext _)⟩
  ·have c2':(n == -9223372036854775808)=false:=by simpa using c2
   have E1:=Lib.hid (qjr (n:=n) (d:=d) (by omega) c2)
   have E2:=Lib.hid (qjs (n:=n) (d:=d))
   have E3:=Lib.hid (qjt (n:=n) (d:=d) (by omega))
   obtain⟨dn,rfl⟩:∃ dn:Nat,d=dn:=⟨d.toNat,by omega⟩
   go_enter Tryz.func27,Tryz.ntmps27
   go_wp2
   ((first | refine RegC.wp_region_ext1 (by kernel_rfl) (by kernel_rfl) ?_ | refine RegC.wp_region_ext0 (by kernel_rfl) (by kernel_rfl) ?_);(repeat (any_goals (first | go_big_quiet_step (first | (go_at_call 77;first | exact Calls.ext_of1 (qpx _ _ (by omega)) | exact Calls.ext_of (qpx _ _ (by omega))) | (go_at_call 76;first | exact Calls.ext_of1 (qpz _ _ _ (by omega) (by omega)) | exact Calls.ext_of (qpz _ _ _ (by omega) (by omega)))) | (refine RegC.wpQuiet_split rfl rfl (fun hb=>?_) (fun hb=>?_)<;>simp only[hb]))));all_goals (refine wpQuiet_nil ?_;rintro _ ⟨nq,rfl⟩))
   go_wp2
   ·have hg:1<Nat.gcd dn n.natAbs:=by omega
    go_ret
    exact⟨qpv (E2.out (by simp only[Int.toNat_natCast];omega)).symm,ext_of (((Bel.refl _).alloc _).ext _)⟩
   ·have hg:¬ 1<Nat.gcd dn n.natAbs:=by omega
    go_ret
    exact⟨qpv (E1.out (E3.out (by simpa using hg))).symm,ext_of (((Bel.refl _).alloc _).ext _)⟩
set_option maxHeartbeats 400000 in
theorem qq3 (n d:Int) (w:World) (hn:-9223372036854775808<=n/\n<=9223372036854775807) (hd:-9223372036854775808<=d/\d<=9223372036854775807) :
  Calls Tryz.prog 17 #[.agg #[.int .i64 n,.int .i64 d]] w fun e w'=>e=.returned (.int .i64 (qjo n d))/\∃ x,w'=ext w x:=by
 obtain⟨hn1,hn2⟩:=hn;obtain⟨hd1,hd2⟩:=hd
 by_cases c1:d<1
 ·have e1:=Lib.hid (qjp (n:=n) c1)
  go_enter Tryz.func17,Tryz.ntmps17
  go_wp2
  ((first | refine RegC.wp_region_ext1 (by kernel_rfl) (by kernel_rfl) ?_ | refine RegC.wp_region_ext0 (by kernel_rfl) (by kernel_rfl) ?_);(repeat (any_goals (first | go_big_quiet_step (fail) | (refine RegC.wpQuiet_split rfl rfl (fun hb=>?_) (fun hb=>?_)<;>simp only[hb]))));all_goals (refine wpQuiet_nil ?_;rintro _ ⟨nq,rfl⟩))
  go_wp2
  (go_ret;exact⟨qpv (by exact e1.out.symm),ext_of (by (try simp only[qdi]);repeat (first | exact Bel.refl _ | assumption | refine qdr ?_ _ | refine qds ?_ _ | refine Bel.ext ?_ _ | refine Bel.alloc ?_ _ | refine Bel.drewN ?_ _))⟩)
 ·have c1':decide (d<1)=false:=by simpa using c1
  by_cases c2:n=-9223372036854775808
  ·subst c2
   go_enter Tryz.func17,Tryz.ntmps17
   go_wp2
   ((first | refine RegC.wp_region_ext1 (by kernel_rfl) (by kernel_rfl) ?_ | refine RegC.wp_region_ext0 (by kernel_rfl) (by kernel_rfl) ?_);(repeat (any_goals (first | go_big_quiet_step (fail) | (refine RegC.wpQuiet_split rfl rfl (fun hb=>?_) (fun hb=>?_)<;>simp only[hb]))));all_goals (refine wpQuiet_nil ?_;rintro _ ⟨nq,rfl⟩))
   go_wp2
   (go_ret;exact⟨qpv (by exact qjq.symm),ext_of (by (try simp only[qdi]);repeat (first | exact Bel.refl _ | assumption | refine qdr ?_ _ | refine qds ?_ _ | refine Bel.ext ?_ _ | refine Bel.alloc ?_ _ | refine Bel.drewN ?_ _))⟩)
  ·have c2':(n == -9223372036854775808)=false:=by simpa using c2
   have E1:=Lib.hid (qjr (n:=n) (d:=d) (by omega) c2)
   have E2:=Lib.hid (qjs (n:=n) (d:=d))
   obtain⟨dn,rfl⟩:∃ dn:Nat,d=dn:=⟨d.toNat,by omega⟩
   go_enter Tryz.func17,Tryz.ntmps17
   go_wp2
   ((first | refine RegC.wp_region_ext1 (by kernel_rfl) (by kernel_rfl) ?_ | refine RegC.wp_region_ext0 (by kernel_rfl) (by kernel_rfl) ?_);(repeat (any_goals (first | go_big_quiet_step (first | (go_at_call 57;first | exact Calls.ext_of1 (qpy _ _ (by omega)) | exact Calls.ext_of (qpy _ _ (by omega))) | (go_at_call 56;first | exact Calls.ext_of1 (qq0 _ _ _ (by omega) (by omega)) | exact Calls.ext_of (qq0 _ _ _ (by omega) (by omega)))) | (refine RegC.wpQuiet_split rfl rfl (fun hb=>?_) (fun hb=>?_)<;>simp only[hb]))));all_goals (refine wpQuiet_nil ?_;rintro _ ⟨nq,rfl⟩))
   go_wp2
   all_goals (go_ret;exact⟨qpv (by first | exact (E2.out (by rw[Int.toNat_natCast,Nat.gcd_comm];(first | omega | (simp only[bne_iff_ne,ne_eq,bne_eq_false_iff_eq,beq_iff_eq,beq_eq_false_iff_ne,decide_eq_true_eq,decide_eq_false_iff_not,Bool.or_eq_true,Bool.and_eq_true,Bool.not_eq_true,Bool.not_eq_true',Bool.not_eq_false']at *;omega)))).symm | exact (E1.out (by rw[Int.toNat_natCast,Nat.gcd_comm];(first | omega | (simp only[bne_iff_ne,ne_eq,bne_eq_false_iff_eq,beq_iff_eq,beq_eq_false_iff_ne,decide_eq_true_eq,decide_eq_false_iff_not,Bool.or_eq_true,Bool.and_eq_true,Bool.not_eq_true,Bool.not_eq_true',Bool.not_eq_false']at *;omega)))).symm),ext_of (by (try simp only[qdi]);repeat (first | exact Bel.refl _ | assumption | refine qdr ?_ _ | refine qds ?_ _ | refine Bel.ext ?_ _ | refine Bel.alloc ?_ _ | refine Bel.drewN ?_ _))⟩)
set_option maxHeartbeats 400000 in
theorem qq5 (n:Int) (w:World):Calls Tryz.prog 145 #[.int .i64 n] w fun e w'=>e=.returned (.bool (far n))/\∃ x,w'=ext w x:=by
 go_enter Tryz.func145,Tryz.ntmps145
 go_wp2
 all_goals (go_ret;exact⟨qpw (by first | exact (qk9 _).symm | (rw[qk9];simp[*];done) | (rw[qk9];simp;omega)),ext_of (by (try simp only[qdi]);repeat (first | exact Bel.refl _ | assumption | refine qdr ?_ _ | refine qds ?_ _ | refine Bel.ext ?_ _ | refine Bel.alloc ?_ _ | refine Bel.drewN ?_ _))⟩)
set_option maxHeartbeats 400000 in
theorem qq6 (i a b:Int) (w:World) :
  Calls Tryz.prog 75 #[.agg #[.int .i64 i,.int .i64 a,.int .i64 b]] w fun e w'=>e=.returned (.int .i64 (qk2 i a b))/\∃ x,w'=ext w x:=by
 have E1:=Lib.hid (qk3 (i:=i) (a:=a) (b:=b))
 have E2:=Lib.hid (qk4 (i:=i) (a:=a) (b:=b))
 go_enter Tryz.func75,Tryz.ntmps75
 go_wp2_with (first | (go_at_call 145;refine (qq5 _ _).mono ?_;rintro e _ ⟨rfl,nx,rfl⟩))
 all_goals (go_ret;exact⟨qpv (by (try simp only[qkc,qkd]at *);first | exact (E2.out (by omega)).symm | exact (E1.out (by omega)).symm),ext_of (by (try simp only[qdi]);repeat (first | exact Bel.refl _ | assumption | refine qdr ?_ _ | refine qds ?_ _ | refine Bel.ext ?_ _ | refine Bel.alloc ?_ _ | refine Bel.drewN ?_ _))⟩)
set_option maxHeartbeats 400000 in
theorem qq7 (i a b:Int) (w:World) :
  Calls Tryz.prog 55 #[.agg #[.int .i64 i,.int .i64 a,.int .i64 b]] w fun e w'=>e=.returned (.int .i64 (qk2 i a b))/\∃ x,w'=ext w x:=by
 have E1:=Lib.hid (qk3 (i:=i) (a:=a) (b:=b))
 have E2:=Lib.hid (qk4 (i:=i) (a:=a) (b:=b))
 go_enter Tryz.func55,Tryz.ntmps55
 go_wp2
 all_goals (go_ret;exact⟨qpv (by first | exact (E1.out (by omega)).symm | exact (E2.out (by omega)).symm),ext_of (by (try simp only[qdi]);repeat (first | exact Bel.refl _ | assumption | refine qdr ?_ _ | refine qds ?_ _ | refine Bel.ext ?_ _ | refine Bel.alloc ?_ _ | refine Bel.drewN ?_ _))⟩)
set_option maxHeartbeats 1000000 in
theorem qq8 (neg:Bool) (hi lo dhi dlo:Nat) (w:World) (h1:hi<18446744073709551616) (h2:lo<18446744073709551616) (h3:dhi<18446744073709551616) (h4:dlo<18446744073709551616) :
  Calls Tryz.prog 217 #[.agg #[.bool neg,.int .u64 hi,.int .u64 lo],.int .u64 dhi,.int .u64 dlo] w fun e w'=>e=.returned (.tuple #[.agg #[.int .i64 (bld neg hi lo dhi dlo).1,.int .i64 (bld neg hi lo dhi dlo).2.1],.int .i64 (bld neg hi lo dhi dlo).2.2])/\∃ x,w'=ext w x:=by
 have E1:=Lib.hid (@qke neg hi lo dhi dlo)
 have E2:=Lib.hid (@qkf hi lo dhi dlo)
 have E3:=Lib.hid (@qkg hi lo dhi dlo)
 cases neg
 all_goals (
  go_enter Tryz.func217,Tryz.ntmps217
  go_wp2)
 all_goals first
  | (have e:=E1.out (by omega);exact bodyPost_ret (v:=.tuple #[.agg #[.int .i64 0,.int .i64 0],.int .i64 16]) (by simp[results,Tryz.results217,go_sem]) rfl ⟨by first | rw[e] | (simp only[‹hi=0›]at e;rw[e]),ext_of (by (try simp only[qdi]);repeat (first | exact Bel.refl _ | assumption | refine qdr ?_ _ | refine qds ?_ _ | refine Bel.ext ?_ _ | refine Bel.alloc ?_ _ | refine Bel.drewN ?_ _))⟩)
  | (have e:=E2.out (by omega);exact bodyPost_ret (v:=.tuple #[.agg #[.int .i64 (-(lo:Int)),.int .i64 dlo],.int .i64 0]) (by simp[results,Tryz.results217,go_sem]) rfl ⟨by first | rw[e] | (simp only[‹hi=0›]at e;rw[e]),ext_of (by (try simp only[qdi]);repeat (first | exact Bel.refl _ | assumption | refine qdr ?_ _ | refine qds ?_ _ | refine Bel.ext ?_ _ | refine Bel.alloc ?_ _ | refine Bel.drewN ?_ _))⟩)
  | (have e:=E3.out (by omega);exact bodyPost_ret (v:=.tuple #[.agg #[.int .i64 lo,.int .i64 dlo],.int .i64 0]) (by simp[results,Tryz.results217,go_sem]) rfl ⟨by first | rw[e] | (simp only[‹hi=0›]at e;rw[e]),ext_of (by (try simp only[qdi]);repeat (first | exact Bel.refl _ | assumption | refine qdr ?_ _ | refine qds ?_ _ | refine Bel.ext ?_ _ | refine Bel.alloc ?_ _ | refine Bel.drewN ?_ _))⟩)
set_option maxHeartbeats 1000000 in
theorem qq9 (neg n1 n2:Bool) (hi lo dhi dlo:Nat) (w:World) (h1:hi<18446744073709551616) (h2:lo<18446744073709551616) (h3:dhi<18446744073709551616) (h4:dlo<18446744073709551616) :
  Calls Tryz.prog 224 #[.bool neg,.agg #[.bool n1,.int .u64 hi,.int .u64 lo],.agg #[.bool n2,.int .u64 dhi,.int .u64 dlo]] w fun e w'=>e=.returned (.tuple #[.agg #[.int .i64 (bld neg hi lo dhi dlo).1,.int .i64 (bld neg hi lo dhi dlo).2.1],.int .i64 (bld neg hi lo dhi dlo).2.2])/\∃ x,w'=ext w x:=by
 have E1:=Lib.hid (@qke neg hi lo dhi dlo)
 have E2:=Lib.hid (@qkf hi lo dhi dlo)
 have E3:=Lib.hid (@qkg hi lo dhi dlo)
 cases neg
 all_goals (
  go_enter Tryz.func224,Tryz.ntmps224
  go_wp2)
 all_goals first
  | (have e:=E1.out (by omega);exact bodyPost_ret (v:=.tuple #[.agg #[.int .i64 0,.int .i64 0],.int .i64 16]) (by simp[results,Tryz.results224,go_sem]) rfl ⟨by first | rw[e] | (simp only[‹hi=0›]at e;rw[e]) | (simp only[‹dhi=0›]at e;rw[e])  | (simp only[‹hi=0›,‹dhi=0›]at e;rw[e]),ext_of (by (try simp only[qdi]);repeat (first | exact Bel.refl _ | assumption | refine qdr ?_ _ | refine qds ?_ _ | refine Bel.ext ?_ _ | refine Bel.alloc ?_ _ | refine Bel.drewN ?_ _))⟩)
  | (have e:=E2.out (by omega);exact bodyPost_ret (v:=.tuple #[.agg #[.int .i64 (-(lo:Int)),.int .i64 dlo],.int .i64 0]) (by simp[results,Tryz.results224,go_sem]) rfl ⟨by first | rw[e] | (simp only[‹hi=0›,‹dhi=0›]at e;rw[e]),ext_of (by (try simp only[qdi]);repeat (first | exact Bel.refl _ | assumption | refine qdr ?_ _ | refine qds ?_ _ | refine Bel.ext ?_ _ | refine Bel.alloc ?_ _ | refine Bel.drewN ?_ _))⟩)
  | (have e:=E3.out (by omega);exact bodyPost_ret (v:=.tuple #[.agg #[.int .i64 lo,.int .i64 dlo],.int .i64 0]) (by simp[results,Tryz.results224,go_sem]) rfl ⟨by first | rw[e] | (simp only[‹hi=0›,‹dhi=0›]at e;rw[e]),ext_of (by (try simp only[qdi]);repeat (first | exact Bel.refl _ | assumption | refine qdr ?_ _ | refine qds ?_ _ | refine Bel.ext ?_ _ | refine Bel.alloc ?_ _ | refine Bel.drewN ?_ _))⟩)
theorem qqa {a g:Nat} (h:a<18446744073709551616):IntKind.u64.wrap ((a:Int)/(g:Int))=((a/g:Nat):Int):=by
 have:=qkl (g:=g) h
 rw[← Int.natCast_ediv];generalize a/g=q at *;rw[IntKind.wrap_u64];omega
set_option maxHeartbeats 1000000 in
theorem qqb (n d:Int) (w:World) (hn:-9223372036854775808<=n/\n<=9223372036854775807) (hd:-9223372036854775808<=d/\d<=9223372036854775807) :
  Calls Tryz.prog 197 #[.int .i64 n,.int .i64 d] w fun e w'=>e=.returned (.tuple #[.agg #[.int .i64 (mk n d).1,.int .i64 (mk n d).2.1],.int .i64 (mk n d).2.2])/\∃ x,w'=ext w x:=by
 obtain⟨hn1,hn2⟩:=hn;obtain⟨hd1,hd2⟩:=hd
 by_cases c:d=0
 ·subst c
  go_enter Tryz.func197,Tryz.ntmps197
  go_wp2
  exact bodyPost_ret (v:=.tuple #[.agg #[.int .i64 0,.int .i64 0],.int .i64 26]) (by simp[results,Tryz.results197,go_sem]) rfl ⟨by rw[qki],ext_of (by (try simp only[qdi]);repeat (first | exact Bel.refl _ | assumption | refine qdr ?_ _ | refine qds ?_ _ | refine Bel.ext ?_ _ | refine Bel.alloc ?_ _ | refine Bel.drewN ?_ _))⟩
 ·have c':(d==0)=false:=by simpa using c
  have E1:=Lib.hid (qkm (n:=n) c)
  have g1:=qkk (n:=n) c
  have g2:Nat.gcd n.natAbs d.natAbs<18446744073709551616:=Nat.lt_of_le_of_lt (Nat.gcd_le_right _ (by omega)) (by omega:d.natAbs<18446744073709551616)
  have b1:=qkl (a:=n.natAbs) (g:=Nat.gcd n.natAbs d.natAbs) (B:=18446744073709551616) (by omega)
  have b2:=qkl (a:=d.natAbs) (g:=Nat.gcd n.natAbs d.natAbs) (B:=18446744073709551616) (by omega)
  have G1:((Nat.gcd n.natAbs d.natAbs:Int)==0)=false:=by rw[beq_eq_false_iff_ne];omega
  have q1:IntKind.u64.wrap ((n.natAbs:Int)/(Nat.gcd n.natAbs d.natAbs:Int))=((n.natAbs/Nat.gcd n.natAbs d.natAbs:Nat):Int):=qqa (by omega)
  have q2:IntKind.u64.wrap ((d.natAbs:Int)/(Nat.gcd n.natAbs d.natAbs:Int))=((d.natAbs/Nat.gcd n.natAbs d.natAbs:Nat):Int):=qqa (by omega)
  go_enter Tryz.func197,Tryz.ntmps197
  go_wp2_with (first | (go_at_call 77;refine (qpx _ _ (by omega)).mono ?_;rintro e _ ⟨rfl,nx,rfl⟩) | (go_at_call 76;refine (qpz _ _ _ (by omega) (by omega)).mono ?_;rintro e _ ⟨rfl,nx,rfl⟩))
  ((first | refine RegC.wp_region_tail1 17 (by kernel_rfl) (by kernel_rfl) ?_ | refine RegC.wp_region_tail0 17 (by kernel_rfl) (by kernel_rfl) ?_);simp only[List.take_succ_cons,List.take_zero,List.drop_succ_cons,List.drop_zero];(repeat (any_goals (first | go_big_quiet_step (first | (go_at_call 77;first | exact Calls.ext_of1 (qpx _ _ (by omega)) | exact Calls.ext_of (qpx _ _ (by omega))) | (go_at_call 217;first | exact Calls.ext_of1 (qq8 _ 0 _ 0 _ _ (by omega) (by omega) (by omega) (by omega)) | exact Calls.ext_of (qq8 _ 0 _ 0 _ _ (by omega) (by omega) (by omega) (by omega)))) | (refine RegC.wpQuiet_split rfl rfl (fun hb=>?_) (fun hb=>?_)<;>simp only[hb]))));all_goals (refine wpQuiet_nil ?_;rintro _ ⟨nq,rfl⟩))
  go_wp2
  exact bodyPost_ret (v:=.tuple #[.agg #[.int .i64 (mk n d).1,.int .i64 (mk n d).2.1],.int .i64 (mk n d).2.2]) (by simp[results,Tryz.results197,go_sem,E1.out]) rfl ⟨rfl,ext_of (by (try simp only[qdi]);repeat (first | exact Bel.refl _ | assumption | refine qdr ?_ _ | refine qds ?_ _ | refine Bel.ext ?_ _ | refine Bel.alloc ?_ _ | refine Bel.drewN ?_ _))⟩
set_option maxHeartbeats 1000000 in
theorem qqc (n d:Int) (w:World) (hn:-9223372036854775808<=n/\n<=9223372036854775807) (hd:-9223372036854775808<=d/\d<=9223372036854775807) :
  Calls Tryz.prog 200 #[.int .i64 n,.int .i64 d] w fun e w'=>e=.returned (.tuple #[.agg #[.int .i64 (mk n d).1,.int .i64 (mk n d).2.1],.int .i64 (mk n d).2.2])/\∃ x,w'=ext w x:=by
 obtain⟨hn1,hn2⟩:=hn;obtain⟨hd1,hd2⟩:=hd
 by_cases c:d=0
 ·subst c
  go_enter Tryz.func200,Tryz.ntmps200
  go_wp2
  exact bodyPost_ret (v:=.tuple #[.agg #[.int .i64 0,.int .i64 0],.int .i64 26]) (by simp[results,Tryz.results200,go_sem]) rfl ⟨by rw[qki],ext_of (by (try simp only[qdi]);repeat (first | exact Bel.refl _ | assumption | refine qdr ?_ _ | refine qds ?_ _ | refine Bel.ext ?_ _ | refine Bel.alloc ?_ _ | refine Bel.drewN ?_ _))⟩
 ·have c':(d==0)=false:=by simpa using c
  have E1:=Lib.hid (qkn (n:=n) c)
  have E2:=Lib.hid (qko (n:=n) c)
  have g1:=qkk (n:=n) c
  have g2:Nat.gcd n.natAbs d.natAbs<18446744073709551616:=Nat.lt_of_le_of_lt (Nat.gcd_le_right _ (by omega)) (by omega:d.natAbs<18446744073709551616)
  have b1:=qkl (a:=n.natAbs) (g:=Nat.gcd n.natAbs d.natAbs) (B:=18446744073709551616) (by omega)
  have b2:=qkl (a:=d.natAbs) (g:=Nat.gcd n.natAbs d.natAbs) (B:=18446744073709551616) (by omega)
  have G1:((Nat.gcd n.natAbs d.natAbs:Int)==0)=false:=by rw[beq_eq_false_iff_ne];omega
  have q1:IntKind.u64.wrap ((n.natAbs:Int)/(Nat.gcd n.natAbs d.natAbs:Int))=((n.natAbs/Nat.gcd n.natAbs d.natAbs:Nat):Int):=qqa (by omega)
  have q2:IntKind.u64.wrap ((d.natAbs:Int)/(Nat.gcd n.natAbs d.natAbs:Int))=((d.natAbs/Nat.gcd n.natAbs d.natAbs:Nat):Int):=qqa (by omega)
  go_enter Tryz.func200,Tryz.ntmps200
  go_wp2_with (first | (go_at_call 57;refine (qpy _ _ (by omega)).mono ?_;rintro e _ ⟨rfl,nx,rfl⟩) | (go_at_call 56;refine (qq0 _ _ _ (by omega) (by omega)).mono ?_;rintro e _ ⟨rfl,nx,rfl⟩))
  ((first | refine RegC.wp_region_tail1 22 (by kernel_rfl) (by kernel_rfl) ?_ | refine RegC.wp_region_tail0 22 (by kernel_rfl) (by kernel_rfl) ?_);simp only[List.take_succ_cons,List.take_zero,List.drop_succ_cons,List.drop_zero];(repeat (any_goals (first | go_big_quiet_step (first | (go_at_call 57;first | exact Calls.ext_of1 (qpy _ _ (by omega)) | exact Calls.ext_of (qpy _ _ (by omega))) | (go_at_call 224;first | exact Calls.ext_of1 (qq9 _ _ _ 0 _ 0 _ _ (by omega) (by omega) (by omega) (by omega)) | exact Calls.ext_of (qq9 _ _ _ 0 _ 0 _ _ (by omega) (by omega) (by omega) (by omega)))) | (refine RegC.wpQuiet_split rfl rfl (fun hb=>?_) (fun hb=>?_)<;>simp only[hb]))));all_goals (refine wpQuiet_nil ?_;rintro _ ⟨nq,rfl⟩))
  all_goals go_wp2
  ·exact bodyPost_ret (v:=.tuple #[.agg #[.int .i64 (mk n d).1,.int .i64 (mk n d).2.1],.int .i64 (mk n d).2.2]) (by simp[results,Tryz.results200,go_sem,E1.out (by assumption)]) rfl ⟨rfl,ext_of (by (try simp only[qdi]);repeat (first | exact Bel.refl _ | assumption | refine qdr ?_ _ | refine qds ?_ _ | refine Bel.ext ?_ _ | refine Bel.alloc ?_ _ | refine Bel.drewN ?_ _))⟩
  ·exact bodyPost_ret (v:=.tuple #[.agg #[.int .i64 (mk n d).1,.int .i64 (mk n d).2.1],.int .i64 (mk n d).2.2]) (by simp[results,Tryz.results200,go_sem,E2.out (by assumption)]) rfl ⟨rfl,ext_of (by (try simp only[qdi]);repeat (first | exact Bel.refl _ | assumption | refine qdr ?_ _ | refine qds ?_ _ | refine Bel.ext ?_ _ | refine Bel.alloc ?_ _ | refine Bel.drewN ?_ _))⟩
end Go.Proofs.YtfjjdnaggblaaaaGreat
namespace Go.Pel
open Go Go.RowKit
def un (a:Int):Nat:=(a%18446744073709551616).toNat
theorem qqd (a:Int):un a<18446744073709551616:=by unfold un;omega
theorem qqe (a:Int):((un a:Nat):Int)=a%18446744073709551616:=by unfold un;omega
theorem qqf {a:Int} (h:0<=a) (h2:a<9223372036854775808):((un a:Nat):Int)=a:=by rw[qqe];omega
theorem qqg {a:Int} (h:a<0) (h2:-9223372036854775808<=a):((un a:Nat):Int)=a+18446744073709551616:=by rw[qqe];omega
theorem qqh (a b:Int) (ha:-9223372036854775808<=a/\a<9223372036854775808) (hb:-9223372036854775808<=b/\b<9223372036854775808) :
 ((un a*un b:Nat):Int)=a*b+18446744073709551616*((if a<0 then b else 0)+(if b<0 then a else 0))+(if a<0/\b<0 then 340282366920938463463374607431768211456 else 0):=by
 have e:((un a*un b:Nat):Int)=(un a:Int)*(un b:Int):=by simp
 rw[e]
 by_cases h1:a<0<;>by_cases h2:b<0
 ·rw[qqg h1 ha.1,qqg h2 hb.1]
  simp only[h1,h2,if_true,and_self,Int.add_mul,Int.mul_add]
  have:b*18446744073709551616=18446744073709551616*b:=Int.mul_comm _ _
  omega
 ·rw[qqg h1 ha.1,qqf (by omega) hb.2]
  simp only[h1,h2,if_true,if_false,and_false,Int.add_mul,Int.mul_add]
  omega
 ·rw[qqf (by omega) ha.2,qqg h2 hb.1]
  simp only[h1,h2,if_true,if_false,false_and,Int.add_mul,Int.mul_add]
  omega
 ·rw[qqf (by omega) ha.2,qqf (by omega) hb.2]
  simp only[h1,h2,if_false,false_and]
  omega
def hiOf (a b:Int):Int:=wrap64 (wrap64 (wrap64 ((un a*un b/18446744073709551616:Nat):Int)-(if a<0 then b else 0))-(if b<0 then a else 0))
theorem qqi (a b:Int) (ha:-9223372036854775808<=a/\a<9223372036854775808) (hb:-9223372036854775808<=b/\b<9223372036854775808) (hP:-77371252455336267181195264<=a*b/\a*b<=77371252455336267181195264):hiOf a b=a*b/18446744073709551616:=by
 have h:=qqh a b ha hb
 unfold hiOf
 generalize un a*un b=U at h
 generalize a*b=P at h hP ⊢
 unfold wrap64
 by_cases h1:a<0<;>by_cases h2:b<0<;>simp only[h1,h2,if_true,if_false,and_true,and_false,and_self,Int.sub_zero,Int.add_zero,Int.zero_add,Int.mul_zero]at h ⊢ <;> omega
theorem qqj (a b:Int) (ha:-9223372036854775808<=a/\a<9223372036854775808) (hb:-9223372036854775808<=b/\b<9223372036854775808):((un a*un b%18446744073709551616:Nat):Int)=a*b%18446744073709551616:=by
 have h:=qqh a b ha hb
 generalize un a*un b=U at h ⊢
 generalize a*b=P at h ⊢
 by_cases h1:a<0<;>by_cases h2:b<0<;>simp only[h1,h2,if_true,if_false,and_true,and_false,and_self,Int.add_zero,Int.zero_add,Int.mul_zero]at h<;>omega
def farD (p q:Pt) (n d:Int):Int:=(p.a-q.a)*d+(p.b-q.b)*n
def leads (p q:Pt) (n d:Int):Bool:=if farD p q n d≠0 then decide (0<farD p q n d) else if p.b≠q.b then decide (q.b<p.b) else decide (p.id<q.id)
def cmpZ (a b:Int):Int:=if a<b then -1 else if b<a then 1 else 0
theorem qqk {a b:Int} (h:a<b):cmpZ a b=-1:=if_pos h
theorem qql {a b:Int} (h:b<a):cmpZ a b=1:=by unfold cmpZ;rw[if_neg (by omega),if_pos h]
theorem qqm {a b:Int} (h:a=b):cmpZ a b=0:=by unfold cmpZ;rw[if_neg (by omega),if_neg (by omega)]
def orZ (x y:Int):Int:=if x≠0 then x else y
theorem qqn {x y:Int} (h:x=0):orZ x y=y:=if_neg (by simpa using h)
theorem qqo {x y:Int} (h:x≠0):orZ x y=x:=if_pos h
def cmpC (p q:Pt) (n d:Int):Int:=if farD p q n d<0 then -1 else if 0<farD p q n d then 1 else if cmpZ p.b q.b≠0 then cmpZ p.b q.b else cmpZ q.id p.id
theorem qqp {p q:Pt} {n d:Int} (h:farD p q n d<0):cmpC p q n d=-1:=if_pos h
theorem qqq {p q:Pt} {n d:Int} (h:0<farD p q n d):cmpC p q n d=1:=by unfold cmpC;rw[if_neg (by omega),if_pos h]
theorem qqr {p q:Pt} {n d:Int} (h:farD p q n d=0) (hb:p.b≠q.b):cmpC p q n d=cmpZ p.b q.b:=by
 unfold cmpC;rw[if_neg (by omega),if_neg (by omega),if_pos]
 rcases Int.lt_or_gt_of_ne hb with h1 | h1
 ·rw[qqk h1];decide
 ·rw[qql h1];decide
theorem qqs {p q:Pt} {n d:Int} (h:farD p q n d=0) (hb:p.b=q.b):cmpC p q n d=cmpZ q.id p.id:=by
 unfold cmpC;rw[if_neg (by omega),if_neg (by omega),if_neg (by rw[qqm hb];decide)]
theorem qqt (p q:Pt) (n d:Int):decide (0<cmpC p q n d)=leads p q n d:=by
 unfold leads
 rcases (by omega:farD p q n d<0∨farD p q n d=0∨0<farD p q n d) with h | h | h
 ·rw[qqp h,if_pos (by omega)];simp;omega
 ·rw[if_neg (by omega)]
  by_cases hb:p.b=q.b
  ·rw[qqs h hb,if_neg (by omega)]
   rcases (by omega:p.id<q.id∨q.id<p.id∨p.id=q.id) with h2 | h2 | h2
   ·rw[qql h2];simp;omega
   ·rw[qqk h2];simp;omega
   ·rw[qqm h2.symm];simp;omega
  ·rw[qqr h hb,if_pos hb]
   rcases (by omega:p.b<q.b∨q.b<p.b) with h1 | h1
   ·rw[qqk h1];simp;omega
   ·rw[qql h1];simp;omega
 ·rw[qqq h,if_pos (by omega)];simp;omega
def qqu (p q:Pt) (n d:Int):Int:=if p.chk=0/\q.chk=0/\qjo n d=0 then (if p.id=q.id then 2 else 0) else 8
theorem qqv {p q:Pt} {n d:Int} (h:¬ (p.chk=0/\q.chk=0/\qjo n d=0)):qqu p q n d=8:=if_neg h
theorem qqw {p q:Pt} {n d:Int} (h:p.chk=0/\q.chk=0/\qjo n d=0) (hi:p.id=q.id):qqu p q n d=2:=by unfold qqu;rw[if_pos h,if_pos hi]
theorem qqx {p q:Pt} {n d:Int} (h:p.chk=0/\q.chk=0/\qjo n d=0) (hi:p.id≠q.id):qqu p q n d=0:=by unfold qqu;rw[if_pos h,if_neg hi]
theorem qqy {p q:Pt} {n d:Int} (h:qqu p q n d=0):p.chk=0/\q.chk=0/\qjo n d=0/\p.id≠q.id:=by
 unfold qqu at h
 split at h
 ·rename_i h1
  split at h
  ·omega
  ·exact⟨h1.1,h1.2.1,h1.2.2,‹_›⟩
 ·omega
def qqz (p q:Pt) (n d:Int):Bool×Int:=if qqu p q n d=0 then (leads p q n d,0) else (false,qqu p q n d)
end Go.Pel
namespace Go.Proofs
open Go.Shelf
def Tryz.lays264_ren:Go.Shelf.Ren:=⟨fun | 264=>175 | n=>n,fun | 53=>80 | 46=>240 | n=>n,fun | n=>n⟩
theorem Tryz.lays264:Go.Proofs.Lays.n264 Tryz.prog Tryz.lays264_ren:={
 mixed:=by kernel_rfl
 f264:=Tryz.func175.trans (congrArg some (by kernel_rfl))
 t46:=Tryz.underlying240
 a46:=Tryz.isAgg240
 z46:=Tryz.sizeOf240
 v46:=Tryz.zeroValue240
 t53:=Tryz.underlying80
 a53:=Tryz.isAgg80
 z53:=Tryz.sizeOf80
 v53:=Tryz.zeroValue80 }
open Go.RowKit Go.Lib in
theorem Tryz.bits_Mul64 (x y:Nat) (hx:x<18446744073709551616) (hy:y<18446744073709551616) (w:World) :
 Calls Tryz.prog 175 #[.int .u64 x,.int .u64 y] w fun e w'=>e=.returned (.tuple #[.int .u64 ((x*y/18446744073709551616:Nat):Int),.int .u64 ((x*y%18446744073709551616:Nat):Int)])/\w'=w:=Any.bits_Mul64 Tryz.lays264 x y hx hy w
end Go.Proofs
namespace Go.Proofs.YtfjjdnaggblaaaaGreat
open Go.RowKit Go.Pel
theorem qr0 (x y c:Nat) (hx:x<18446744073709551616) (hy:y<18446744073709551616) (hc:c<=1) (w:World) :
 (callFunc 182 #[.int .u64 x,.int .u64 y,.int .u64 c]).run Tryz.prog w =
 .ok (.value (.tuple #[.int .u64 (((x+y+c)%18446744073709551616:Nat):Int),.int .u64 (((x+y+c)/18446744073709551616:Nat):Int)])) w:=by
 rw[run_callFunc_extern Tryz.func182 (by kernel_rfl) (by kernel_rfl) (by kernel_rfl) (e:=add64Entry) (by kernel_rfl),run_add64 x y c (by omega) (by omega) (by omega) (by omega)]
 simp only[Result.andThen]
 congr 5<;>omega
theorem qr1 {a b Z:Int} {H:Nat} (hH:un a*un b/18446744073709551616=H) (hZ:hiOf a b=Z):(decide (a<0)=true/\decide (b<0)=true/\wrap64 (wrap64 (wrap64 (H:Int)-b)-a)=Z)∨(decide (a<0)=true/\decide (b<0)=false/\wrap64 (wrap64 (H:Int)-b)=Z)∨(decide (a<0)=false/\decide (b<0)=true/\wrap64 (wrap64 (H:Int)-a)=Z)∨(decide (a<0)=false/\decide (b<0)=false/\wrap64 (H:Int)=Z):=by
 have w2:∀ x,wrap64 (wrap64 x)=wrap64 x:=fun x=>by unfold wrap64;omega
 unfold hiOf at hZ
 rw[hH]at hZ
 by_cases h1:a<0<;>by_cases h2:b<0<;>simp only[h1,h2,if_true,if_false,Int.sub_zero,w2]at hZ<;>simp[h1,h2,hZ]
theorem qr2 (a b:Int) (H L:Nat) (hH:un a*un b/18446744073709551616=H) (hL:un a*un b%18446744073709551616=L) (w:World) :
 Calls Tryz.prog 175 #[.int .u64 (IntKind.u64.wrap a),.int .u64 (IntKind.u64.wrap b)] w fun e w'=>e=.returned (.tuple #[.int .u64 (H:Int),.int .u64 (L:Int)])/\∃ x,w'=ext w x:=by
 have h:=Tryz.bits_Mul64 (un a) (un b) (qqd a) (qqd b) w
 rw[hH,hL]at h
 have e1:((un a:Nat):Int)=IntKind.u64.wrap a:=by rw[qqe,IntKind.wrap_u64]
 have e2:((un b:Nat):Int)=IntKind.u64.wrap b:=by rw[qqe,IntKind.wrap_u64]
 rw[e1,e2]at h
 exact h.mono fun _ _ ⟨he,hw⟩=>⟨he,ext_of (hw▸Bel.refl _)⟩
theorem qr3 (L:Nat) (hL:L<18446744073709551616) (w:World):(callFunc 182 #[.int .u64 0,.int .u64 (L:Int),.int .u64 0]).run Tryz.prog w=.ok (.value (.tuple #[.int .u64 (L:Int),.int .u64 0])) w:=by
 have h:=qr0 0 L 0 (by omega) hL (by omega) w
 have e1:(0+L+0)%18446744073709551616=L:=by omega
 have e2:(0+L+0)/18446744073709551616=0:=by omega
 rw[e1,e2]at h
 exact h
set_option maxRecDepth 10000 in
set_option maxHeartbeats 8000000 in
theorem qr4 (a b c d:Int) (w:World) (ha:-9223372036854775808<=a/\a<9223372036854775808) (hb:-9223372036854775808<=b/\b<9223372036854775808) (hc:-9223372036854775808<=c/\c<9223372036854775808) (hd:-9223372036854775808<=d/\d<9223372036854775808)
  (hab:-38685626227668133590597632<=a*b/\a*b<=38685626227668133590597632) (hcd:-38685626227668133590597632<=c*d/\c*d<=38685626227668133590597632) :
  Calls Tryz.prog 136 #[.agg #[.int .i64 a,.int .i64 b,.int .i64 c,.int .i64 d]] w fun e w'=>e=.returned (.agg #[.int .i64 ((a*b+c*d)/18446744073709551616),.int .u64 ((a*b+c*d)%18446744073709551616)])/\∃ x,w'=ext w x:=by
 have i0:∀ w,(Instr.index 232 (.agg #[.int .i64 a,.int .i64 b,.int .i64 c,.int .i64 d]) (.int .i64 0)).run Tryz.prog w=.ok (.agg #[.int .i64 a,.int .i64 b]) w:=fun _=>by kernel_rfl
 have i1:∀ w,(Instr.index 232 (.agg #[.int .i64 a,.int .i64 b,.int .i64 c,.int .i64 d]) (.int .i64 1)).run Tryz.prog w=.ok (.agg #[.int .i64 c,.int .i64 d]) w:=fun _=>by kernel_rfl
 obtain⟨H1,hH1⟩:∃ H,un a*un b/18446744073709551616=H:=⟨_,rfl⟩
 obtain⟨L1,hL1⟩:∃ L,un a*un b%18446744073709551616=L:=⟨_,rfl⟩
 obtain⟨H2,hH2⟩:∃ H,un c*un d/18446744073709551616=H:=⟨_,rfl⟩
 obtain⟨L2,hL2⟩:∃ L,un c*un d%18446744073709551616=L:=⟨_,rfl⟩
 have q1:=Lib.hid (qr2 a b H1 L1 hH1 hL1)
 have q2:=Lib.hid (qr2 c d H2 L2 hH2 hL2)
 have a1:=qr3 L1 (by omega)
 have L1b:L1<18446744073709551616:=by omega
 have L2b:L2<18446744073709551616:=by omega
 obtain⟨S,hS⟩:∃ S,(L1+L2+0)%18446744073709551616=S:=⟨_,rfl⟩
 obtain⟨C,hC⟩:∃ C,(L1+L2+0)/18446744073709551616=C:=⟨_,rfl⟩
 have a2:∀ w,(callFunc 182 #[.int .u64 (L1:Int),.int .u64 (L2:Int),.int .u64 0]).run Tryz.prog w=.ok (.value (.tuple #[.int .u64 (S:Int),.int .u64 (C:Int)])) w:=fun w=>by
  have h:=qr0 L1 L2 0 L1b L2b (by omega) w
  rw[hS,hC]at h;exact h
 obtain⟨Z1,hZ1⟩:∃ Z,hiOf a b=Z:=⟨_,rfl⟩
 obtain⟨Z2,hZ2⟩:∃ Z,hiOf c d=Z:=⟨_,rfl⟩
 have z1:Z1=a*b/18446744073709551616:=by rw[← hZ1];exact qqi a b ha hb (by omega)
 have z2:Z2=c*d/18446744073709551616:=by rw[← hZ2];exact qqi c d hc hd (by omega)
 have l1:=qqj a b ha hb
 have l2:=qqj c d hc hd
 rw[hL1]at l1
 rw[hL2]at l2
 have k1:=qr1 hH1 hZ1
 have k2:=qr1 hH2 hZ2
 have w1:wrap64 Z1=Z1:=by unfold wrap64;omega
 have hfin:Hid (wrap64 (wrap64 (Z1+Z2)+wrap64 (C:Int))=(a*b+c*d)/18446744073709551616/\(S:Int)=(a*b+c*d)%18446744073709551616):=Lib.hid (by
  have hs:(S:Int)=((L1:Int)+L2)%18446744073709551616:=by omega
  have hcc:(C:Int)=((L1:Int)+L2)/18446744073709551616:=by omega
  generalize a*b=P1 at *
  generalize c*d=P2 at *
  unfold wrap64
  constructor<;>omega)
 have HF:=hfin
 clear hH1 hL1 hH2 hL2 hS hC hZ1 hZ2 z1 z2 l1 l2 hab hcd hfin L1b L2b
 obtain⟨ha1,ha2⟩:=ha;obtain⟨hb1,hb2⟩:=hb;obtain⟨hc1,hc2⟩:=hc;obtain⟨hd1,hd2⟩:=hd
 rcases k1 with⟨sa,sb,e1⟩ | ⟨sa,sb,e1⟩ | ⟨sa,sb,e1⟩ | ⟨sa,sb,e1⟩
 all_goals
  rcases k2 with⟨sc,sd,e2⟩ | ⟨sc,sd,e2⟩ | ⟨sc,sd,e2⟩ | ⟨sc,sd,e2⟩
 all_goals
  go_enter Tryz.func136,Tryz.ntmps136
  go_wp2
  refine wp_loop_rounds 3 ?_
  rw[rounds_succ]
  go_wp2_with ((go_at_call 175;refine (q1.out _).mono ?_;rintro e _ ⟨rfl,y1,rfl⟩))
  rw[rounds_succ]
  go_wp2_with ((go_at_call 175;refine (q2.out _).mono ?_;rintro e _ ⟨rfl,y2,rfl⟩))
  rw[rounds_succ]
  go_wp2
  exact bodyPost_ret (v:=.agg #[.int .i64 (wrap64 (wrap64 (Z1+Z2)+wrap64 (C:Int))),.int .u64 (S:Int)]) (by simp[results,Tryz.results136,go_sem]) rfl ⟨by rw[HF.out.1,HF.out.2],ext_of (by (try simp only[qdi]);repeat (first | exact Bel.refl _ | assumption | refine qdr ?_ _ | refine qds ?_ _ | refine Bel.ext ?_ _ | refine Bel.alloc ?_ _ | refine Bel.drewN ?_ _))⟩
def cmpI (a b:Int):Int:=if a<b then -1 else if b<a then 1 else 0
theorem qr5 {a b:Int} (h:a<b):cmpI a b=-1:=if_pos h
theorem qr6 {a b:Int} (h:b<a):cmpI a b=1:=by unfold cmpI;rw[if_neg (by omega),if_pos h]
theorem qr7 {a b:Int} (h:a=b):cmpI a b=0:=by unfold cmpI;rw[if_neg (by omega),if_neg (by omega)]
set_option maxHeartbeats 400000 in
theorem qr8 (a b:Int) (w:World):Calls Tryz.prog 88 #[.int .i64 a,.int .i64 b] w fun e w'=>e=.returned (.int .i64 (cmpI a b))/\∃ x,w'=ext w x:=by
 rcases (by omega:a<b∨b<a∨a=b) with h | h | h
 ·have H:=Lib.hid (qr5 h)
  have h2:¬ b<a:=by omega
  go_enter Tryz.func88,Tryz.ntmps88
  go_wp2
  (go_ret;exact⟨qpv (by exact H.out.symm),ext_of (by (try simp only[qdi]);repeat (first | exact Bel.refl _ | assumption | refine qdr ?_ _ | refine qds ?_ _ | refine Bel.ext ?_ _ | refine Bel.alloc ?_ _ | refine Bel.drewN ?_ _))⟩)
 ·have H:=Lib.hid (qr6 h)
  have h2:¬ a<b:=by omega
  go_enter Tryz.func88,Tryz.ntmps88
  go_wp2
  (go_ret;exact⟨qpv (by exact H.out.symm),ext_of (by (try simp only[qdi]);repeat (first | exact Bel.refl _ | assumption | refine qdr ?_ _ | refine qds ?_ _ | refine Bel.ext ?_ _ | refine Bel.alloc ?_ _ | refine Bel.drewN ?_ _))⟩)
 ·have H:=Lib.hid (qr7 h)
  have h2:¬ a<b:=by omega
  have h3:¬ b<a:=by omega
  clear h
  go_enter Tryz.func88,Tryz.ntmps88
  go_wp2
  (go_ret;exact⟨qpv (by exact H.out.symm),ext_of (by (try simp only[qdi]);repeat (first | exact Bel.refl _ | assumption | refine qdr ?_ _ | refine qds ?_ _ | refine Bel.ext ?_ _ | refine Bel.alloc ?_ _ | refine Bel.drewN ?_ _))⟩)
set_option maxHeartbeats 400000 in
theorem qr9 (a b:Int) (w:World):Calls Tryz.prog 88 #[.int .i64 a,.int .i64 b] w fun e w'=>e=.returned (.int .i64 (cmpZ a b))/\∃ x,w'=ext w x:=qr8 a b w
set_option maxHeartbeats 400000 in
theorem qra (a b:Int) (w:World):Calls Tryz.prog 130 #[.int .i64 a,.int .i64 b] w fun e w'=>e=.returned (.int .i64 (cmpZ a b))/\∃ x,w'=ext w x:=by
 rcases (by omega:a<b∨b<a∨a=b) with h | h | h
 ·have H:=Lib.hid (qqk h)
  have h2:¬ b<a:=by omega
  go_enter Tryz.func130,Tryz.ntmps130
  go_wp2
  (go_ret;exact⟨qpv (by exact H.out.symm),ext_of (by (try simp only[qdi]);repeat (first | exact Bel.refl _ | assumption | refine qdr ?_ _ | refine qds ?_ _ | refine Bel.ext ?_ _ | refine Bel.alloc ?_ _ | refine Bel.drewN ?_ _))⟩)
 ·have H:=Lib.hid (qql h)
  have h2:¬ a<b:=by omega
  go_enter Tryz.func130,Tryz.ntmps130
  go_wp2
  (go_ret;exact⟨qpv (by exact H.out.symm),ext_of (by (try simp only[qdi]);repeat (first | exact Bel.refl _ | assumption | refine qdr ?_ _ | refine qds ?_ _ | refine Bel.ext ?_ _ | refine Bel.alloc ?_ _ | refine Bel.drewN ?_ _))⟩)
 ·have H:=Lib.hid (qqm h)
  have h2:¬ a<b:=by omega
  have h3:¬ b<a:=by omega
  clear h
  go_enter Tryz.func130,Tryz.ntmps130
  go_wp2
  (go_ret;exact⟨qpv (by exact H.out.symm),ext_of (by (try simp only[qdi]);repeat (first | exact Bel.refl _ | assumption | refine qdr ?_ _ | refine qds ?_ _ | refine Bel.ext ?_ _ | refine Bel.alloc ?_ _ | refine Bel.drewN ?_ _))⟩)
set_option maxHeartbeats 1000000 in
theorem qrb (x y:Int) (g:Nat) (w:World) (hg:g<w.heap.size) (h0:w.cell? ⟨g,0,none⟩=some (.int .i64 x)) (h1:w.cell? ⟨g,1,none⟩=some (.int .i64 y)) :
  Calls Tryz.prog 195 #[.slice (some ⟨g,0,none⟩) 2 2] w fun e w'=>e=.returned (.int .i64 (orZ x y))/\∃ x,w'=ext w x:=by
 by_cases hx:x=0
 ·have HR:Hid (orZ x y=y):=Lib.hid (qqn hx)
  have hx1:(x==0)=true:=by simpa using hx
  have hx2:(x != 0)=false:=by simpa using hx
  clear hx
  by_cases hy:y=0
  ·have HY:=Lib.hid hy
   have hy1:(y==0)=true:=by simpa using hy
   have hy2:(y != 0)=false:=by simpa using hy
   clear hy
   go_enter Tryz.func195,Tryz.ntmps195
   go_wp2
   refine wp_loop_rounds 3 ?_
   rw[rounds_succ]
   go_wp2
   rw[rounds_succ]
   go_wp2
   rw[rounds_succ]
   go_wp2
   (go_ret;exact⟨qpv (by rw[HR.out,HY.out]),ext_of (by (try simp only[qdi]);repeat (first | exact Bel.refl _ | assumption | refine qdr ?_ _ | refine qds ?_ _ | refine Bel.ext ?_ _ | refine Bel.alloc ?_ _ | refine Bel.drewN ?_ _))⟩)
  ·have hy1:(y==0)=false:=by simpa using hy
   have hy2:(y != 0)=true:=by simpa using hy
   clear hy
   go_enter Tryz.func195,Tryz.ntmps195
   go_wp2
   refine wp_loop_rounds 3 ?_
   rw[rounds_succ]
   go_wp2
   rw[rounds_succ]
   go_wp2
   (go_ret;exact⟨qpv (by exact HR.out.symm),ext_of (by (try simp only[qdi]);repeat (first | exact Bel.refl _ | assumption | refine qdr ?_ _ | refine qds ?_ _ | refine Bel.ext ?_ _ | refine Bel.alloc ?_ _ | refine Bel.drewN ?_ _))⟩)
 ·have HR:Hid (orZ x y=x):=Lib.hid (qqo hx)
  have hx1:(x==0)=false:=by simpa using hx
  have hx2:(x != 0)=true:=by simpa using hx
  clear hx
  go_enter Tryz.func195,Tryz.ntmps195
  go_wp2
  refine wp_loop_rounds 3 ?_
  rw[rounds_succ]
  go_wp2
  (go_ret;exact⟨qpv (by exact HR.out.symm),ext_of (by (try simp only[qdi]);repeat (first | exact Bel.refl _ | assumption | refine qdr ?_ _ | refine qds ?_ _ | refine Bel.ext ?_ _ | refine Bel.alloc ?_ _ | refine Bel.drewN ?_ _))⟩)
structure CmpIn (p q:Pt) (n d:Int):Prop where
 pa:-1048576<=p.a/\p.a<=1048576
 pb:-1048576<=p.b/\p.b<=1048576
 qa:-1048576<=q.a/\q.a<=1048576
 qb:-1048576<=q.b/\q.b<=1048576
 n:-9223372036854775807<=n/\n<=9223372036854775807
 d:1<=d/\d<=9223372036854775807
theorem qrc (a b A B:Int) (ha:-A<=a/\a<=A) (hb:-B<=b/\b<=B):-(A*B)<=a*b/\a*b<=A*B:=by
 have hA:0<=A:=by omega
 have hB:0<=B:=by omega
 have h1:0<=(A-a)*(B+b):=Int.mul_nonneg (by omega) (by omega)
 have h2:0<=(A+a)*(B-b):=Int.mul_nonneg (by omega) (by omega)
 have h3:0<=(A-a)*(B-b):=Int.mul_nonneg (by omega) (by omega)
 have h4:0<=(A+a)*(B+b):=Int.mul_nonneg (by omega) (by omega)
 simp only[Int.sub_mul,Int.add_mul,Int.mul_sub,Int.mul_add]at h1 h2 h3 h4
 omega
theorem qrd {p q:Pt} {n d:Int} (h:CmpIn p q n d):(-38685626227668133590597632<=(p.a-q.a)*d/\(p.a-q.a)*d<=38685626227668133590597632)/\(-38685626227668133590597632<=(p.b-q.b)*n/\(p.b-q.b)*n<=38685626227668133590597632):=by
 obtain⟨h1,h2,h3,h4,h5,h6⟩:=h
 have k1:=qrc (p.a-q.a) d 2097152 9223372036854775807 (by omega) (by omega)
 have k2:=qrc (p.b-q.b) n 2097152 9223372036854775807 (by omega) (by omega)
 omega
theorem qre (h l h' l':Int) (w:World):(Op.equalIn 10000 229 (.agg #[.int .i64 h,.int .u64 l]) (.agg #[.int .i64 h',.int .u64 l'])).run Tryz.prog w=.ok (decide (h=h'/\l=l')) w:=by
 simp[go_sem]
 by_cases h1:h=h'<;>by_cases h2:l=l'<;>simp[h1,h2]
attribute [local go_sem ↓] qre
set_option maxRecDepth 10000 in
set_option maxHeartbeats 2000000 in
theorem qrf (p q:Pt) (n d:Int) (w:World) (h:CmpIn p q n d) :
  Calls Tryz.prog 144 #[.agg #[.int .i64 p.id,.int .i64 p.a,.int .i64 p.b],.agg #[.int .i64 q.id,.int .i64 q.a,.int .i64 q.b],.agg #[.int .i64 n,.int .i64 d]] w fun e w'=>e=.returned (.int .i64 (cmpC p q n d))/\∃ x,w'=ext w x:=by
 obtain⟨k1,k2⟩:=qrd h
 obtain⟨h1,h2,h3,h4,h5,h6⟩:=h
 have hs:=qr4 (p.a-q.a) d (p.b-q.b) n
 have hs':=fun w=>hs w (by omega) (by omega) (by omega) (by omega) k1 k2
 obtain⟨D,hD⟩:∃ D,farD p q n d=D:=⟨_,rfl⟩
 have hD':(p.a-q.a)*d+(p.b-q.b)*n=D:=hD
 rw[hD']at hs'
 obtain⟨hi,hhi⟩:∃ x,D/18446744073709551616=x:=⟨_,rfl⟩
 obtain⟨lo,hlo⟩:∃ x,D%18446744073709551616=x:=⟨_,rfl⟩
 rw[hhi,hlo]at hs'
 have q1:=Lib.hid hs'
 have HD:=Lib.hid hD
 obtain⟨a1,a2⟩:=h1;obtain⟨a3,a4⟩:=h2;obtain⟨a5,a6⟩:=h3;obtain⟨a7,a8⟩:=h4
 rcases (by omega:D<0∨0<D∨D=0) with hd0 | hd0 | hd0
 ·have hne:decide (hi=0/\lo=0)=false:=by rw[decide_eq_false_iff_not];omega
  have hlt:hi<0:=by omega
  have HR:=Lib.hid (qqp (p:=p) (q:=q) (n:=n) (d:=d) (by omega))
  clear hs hs' hD hD' hhi hlo k1 k2 h5 h6 hd0
  go_enter Tryz.func144,Tryz.ntmps144
  go_wp2_with ((go_at_call 136;refine (q1.out _).mono ?_;rintro e _ ⟨rfl,nx,rfl⟩))
  (go_ret;exact⟨qpv (by exact HR.out.symm),ext_of (by (try simp only[qdi]);repeat (first | exact Bel.refl _ | assumption | refine qdr ?_ _ | refine qds ?_ _ | refine Bel.ext ?_ _ | refine Bel.alloc ?_ _ | refine Bel.drewN ?_ _))⟩)
 ·have hne:decide (hi=0/\lo=0)=false:=by rw[decide_eq_false_iff_not];omega
  have hlt:¬ hi<0:=by omega
  have HR:=Lib.hid (qqq (p:=p) (q:=q) (n:=n) (d:=d) (by omega))
  clear hs hs' hD hD' hhi hlo k1 k2 h5 h6 hd0
  go_enter Tryz.func144,Tryz.ntmps144
  go_wp2_with ((go_at_call 136;refine (q1.out _).mono ?_;rintro e _ ⟨rfl,nx,rfl⟩))
  (go_ret;exact⟨qpv (by exact HR.out.symm),ext_of (by (try simp only[qdi]);repeat (first | exact Bel.refl _ | assumption | refine qdr ?_ _ | refine qds ?_ _ | refine Bel.ext ?_ _ | refine Bel.alloc ?_ _ | refine Bel.drewN ?_ _))⟩)
 ·have hne:decide (hi=0/\lo=0)=true:=by rw[decide_eq_true_eq];omega
  have HR:Hid (orZ (cmpZ p.b q.b) (cmpZ q.id p.id)=cmpC p q n d):=Lib.hid (by unfold cmpC;rw[if_neg (by omega),if_neg (by omega)];rfl)
  clear hs hs' hD hD' hhi hlo k1 k2 h5 h6 hd0
  go_enter Tryz.func144,Tryz.ntmps144
  go_wp2_with ((go_at_call 136;refine (q1.out _).mono ?_;rintro e _ ⟨rfl,y1,rfl⟩))
  go_region_held3 (fun w'=>w'.cell? ⟨w.heap.size,0,none⟩=some (.int .i64 p.id)/\w'.cell? ⟨w.heap.size,1,none⟩=some (.int .i64 p.a)/\w'.cell? ⟨w.heap.size,2,none⟩=some (.int .i64 p.b)/\w'.cell? ⟨w.heap.size+1,0,none⟩=some (.int .i64 q.id)/\w'.cell? ⟨w.heap.size+1,1,none⟩=some (.int .i64 q.a)/\w'.cell? ⟨w.heap.size+1,2,none⟩=some (.int .i64 q.b)) (simp[go_sem]) ((first | (go_at_call 88;refine (qr9 _ _ _).mono ?_;rintro e _ ⟨rfl,nx,rfl⟩) | (go_at_call 130;refine (qra _ _ _).mono ?_;rintro e _ ⟨rfl,nx,rfl⟩) | (go_at_call 195;refine (qrb (cmpZ p.b q.b) (cmpZ q.id p.id) _ _ (by simp[go_sem]) (by simp[go_sem]) (by simp[go_sem])).mono ?_;rintro e _ ⟨rfl,nx,rfl⟩)))
  all_goals
   go_wp2
   (go_ret;exact⟨qpv (by exact HR.out),ext_of (by (try simp only[qdi]);repeat (first | exact Bel.refl _ | assumption | refine qdr ?_ _ | refine qds ?_ _ | refine Bel.ext ?_ _ | refine Bel.alloc ?_ _ | refine Bel.drewN ?_ _))⟩)
end Go.Proofs.YtfjjdnaggblaaaaGreat
namespace Go.Proofs.YtfjjdnaggblaaaaGreat
open Go.RowKit Go.Pel
theorem qrg (p:Pt) (v:Int) (h:p.chk=v) (W:World):Calls Tryz.prog 75 #[.agg #[.int .i64 p.id,.int .i64 p.a,.int .i64 p.b]] W fun e w'=>e=.returned (.int .i64 v)/\∃ y,w'=ext W y:=by
 subst h;exact qq6 p.id p.a p.b W
theorem qrh (p:Pt) (v:Int) (h:p.chk=v) (W:World):Calls Tryz.prog 55 #[.agg #[.int .i64 p.id,.int .i64 p.a,.int .i64 p.b]] W fun e w'=>e=.returned (.int .i64 v)/\∃ y,w'=ext W y:=by
 subst h;exact qq7 p.id p.a p.b W
set_option maxRecDepth 10000 in
set_option maxHeartbeats 2000000 in
theorem qri (A:Option Addr) (c:Nat) (l:List Pt) (w:World) (hs:Sl w 3 A l.length c (vp l)) :
  Calls Tryz.prog 26 #[.agg #[.slice A l.length c]] w fun e w'=>e=.returned (.int .i64 (qmq l))/\∃ x,w'=ext w x:=by
 by_cases hm:64<l.length
 ·have E1:=Lib.hid (qmr hm)
  go_enter Tryz.func26,Tryz.ntmps26
  go_wp2
  (go_ret;exact⟨qpv (by exact E1.out.symm),ext_of (by (try simp only[qdi]);repeat (first | exact Bel.refl _ | assumption | refine qdr ?_ _ | refine qds ?_ _ | refine Bel.ext ?_ _ | refine Bel.alloc ?_ _ | refine Bel.drewN ?_ _))⟩)
 ·have E1:=Lib.hid (fun p (hp:p∈l) hc=>qms (l:=l) (by omega) hp hc)
  have E2:=Lib.hid (qmt (l:=l) (by omega))
  have E3:=Lib.hid (qmu (l:=l) (by omega))
  go_enter Tryz.func26,Tryz.ntmps26
  go_wp2
  go_loopw [15] (fun i wr=>∃ (k:Nat),k<=l.length/\i=.int .i64 k/\(∀ p∈l.take k,p.chk=0)/\∃ y,wr=ext (w.alloc (.cells #[.slice A l.length c] 26)) y) (fun i _=>l.length-(intOf i).toNat)
  case atStart=>exact⟨0,Nat.zero_le _,rfl,by simp,ext_of (Bel.refl _)⟩
  case round =>
   obtain⟨k,hk,rfl,hall,y,rfl⟩:=hrel
   have HA:=Lib.hid hall;clear hall
   by_cases hlt:k<l.length
   ·obtain⟨p,hp⟩:∃ p,l[k]?=some p:=⟨_,List.getElem?_eq_getElem hlt⟩
    obtain⟨b,o,rfl,hb⟩:=hs.at_ (by omega)
    obtain⟨r0,r1,r2⟩:=qmn hs hp
    have HP:=Lib.hid hp;clear hp
    rcases qmy p with h | h
    ·have e1:=Lib.hid (qrg p 0 h)
     have HC:=Lib.hid h;clear h
     go_wp2_with ((go_at_call 75;refine (e1.out _).mono ?_;rintro e _ ⟨rfl,nx,rfl⟩))
     go_roundw
     case rel =>
      refine⟨k+1,by omega,by go_num,?_,ext_of (by (try simp only[qdi]);repeat (first | exact Bel.refl _ | assumption | refine qdr ?_ _ | refine qds ?_ _ | refine Bel.ext ?_ _ | refine Bel.alloc ?_ _ | refine Bel.drewN ?_ _))⟩
      intro q hq
      rw[List.take_add_one,HP.out]at hq
      rcases List.mem_append.1 hq with hq | hq
      ·exact HA.out q hq
      ·simp at hq;subst hq;exact HC.out
     case measure=>(first | (simp[intOf];done) | (simp[intOf];omega))
    ·have e1:=Lib.hid (qrg p 8 h)
     have HC:=Lib.hid (E1.out p (List.mem_of_getElem? HP.out) (by rw[h];decide));clear h
     go_wp2_with ((go_at_call 75;refine (e1.out _).mono ?_;rintro e _ ⟨rfl,nx,rfl⟩))
     (go_ret;exact⟨qpv (by exact HC.out.symm),ext_of (by (try simp only[qdi]);repeat (first | exact Bel.refl _ | assumption | refine qdr ?_ _ | refine qds ?_ _ | refine Bel.ext ?_ _ | refine Bel.alloc ?_ _ | refine Bel.drewN ?_ _))⟩)
   ·obtain rfl:k=l.length:=by omega
    have hc0:=HA.out
    rw[List.take_length]at hc0
    have HC:=Lib.hid hc0;clear hc0
    go_wp2
    go_loopw [28] (fun i wr=>∃ (k:Nat),k<=l.length/\i=.int .i64 k/\(∀ (i:Nat) (p q:Pt),i+1<k->l[i]?=some p->l[i+1]?=some q->p.id<q.id)/\∃ y,wr=ext (w.alloc (.cells #[.slice A l.length c] 26)) y) (fun i _=>l.length-(intOf i).toNat)
    case atStart=>exact⟨0,Nat.zero_le _,rfl,(by intro i p q h;omega),y,rfl⟩
    case round =>
     clear hk hlt HA
     obtain⟨k,hk,rfl,hall,y2,rfl⟩:=hrel
     have HA:=Lib.hid hall;clear hall
     by_cases hlt:k<l.length
     ·obtain⟨p,hp⟩:∃ p,l[k]?=some p:=⟨_,List.getElem?_eq_getElem hlt⟩
      obtain⟨b,o,rfl,hb⟩:=hs.at_ (by omega)
      obtain⟨r0,r1,r2⟩:=qmn hs hp
      have HP:=Lib.hid hp;clear hp
      by_cases hk0:0<k
      ·obtain⟨m,rfl⟩:∃ m,k=m+1:=⟨k-1,by omega⟩
       have hmlt:m<l.length:=by omega
       obtain⟨q,hq⟩:∃ q,l[m]?=some q:=⟨_,List.getElem?_eq_getElem (by omega)⟩
       obtain⟨q0,q1,q2⟩:=qmn hs hq
       have HQ:=Lib.hid hq;clear hq
       have hi0:(0:Int)<=(m:Int):=by omega
       have hi1:(m:Int)<(l.length:Int):=by omega
       by_cases hid:q.id<p.id
       ·have hd:¬ p.id<=q.id:=by omega
        go_wp2
        ((first | refine RegC.wp_region_ext1 (by kernel_rfl) (by kernel_rfl) ?_ | refine RegC.wp_region_ext0 (by kernel_rfl) (by kernel_rfl) ?_);(repeat (any_goals (first | go_big_quiet_step (fail) | (refine RegC.wpQuiet_split rfl rfl (fun hb=>?_) (fun hb=>?_)<;>simp only[hb]))));all_goals (refine wpQuiet_nil ?_;rintro _ ⟨nq,rfl⟩))
        go_wp2
        go_roundw
        case rel =>
         refine⟨m+2,by omega,by go_num,?_,ext_of (by (try simp only[qdi]);repeat (first | exact Bel.refl _ | assumption | refine qdr ?_ _ | refine qds ?_ _ | refine Bel.ext ?_ _ | refine Bel.alloc ?_ _ | refine Bel.drewN ?_ _))⟩
         intro i p' q' hi hp' hq'
         rcases Nat.lt_or_ge (i+1) (m+1) with h | h
         ·exact HA.out i p' q' h hp' hq'
         ·obtain rfl:i=m:=by omega
          rw[HQ.out]at hp'
          rw[HP.out]at hq'
          obtain rfl:=Option.some.inj hp'
          obtain rfl:=Option.some.inj hq'
          exact hid
        case measure=>(first | (simp[intOf];done) | (simp[intOf];omega))
       ·have hd:p.id<=q.id:=by omega
        have hbad:incB l=false:=by
         rw[← Bool.not_eq_true,qmo];intro h;exact hid (h m q p HQ.out HP.out)
        have HB:=Lib.hid (E2.out HC.out hbad);clear hbad
        go_wp2
        ((first | refine RegC.wp_region_ext1 (by kernel_rfl) (by kernel_rfl) ?_ | refine RegC.wp_region_ext0 (by kernel_rfl) (by kernel_rfl) ?_);(repeat (any_goals (first | go_big_quiet_step (fail) | (refine RegC.wpQuiet_split rfl rfl (fun hb=>?_) (fun hb=>?_)<;>simp only[hb]))));all_goals (refine wpQuiet_nil ?_;rintro _ ⟨nq,rfl⟩))
        go_wp2
        (go_ret;exact⟨qpv (by exact HB.out.symm),ext_of (by (try simp only[qdi]);repeat (first | exact Bel.refl _ | assumption | refine qdr ?_ _ | refine qds ?_ _ | refine Bel.ext ?_ _ | refine Bel.alloc ?_ _ | refine Bel.drewN ?_ _))⟩)
      ·obtain rfl:k=0:=by omega
       simp only[Nat.zero_mul,Nat.add_zero]at r0 r1 r2
       go_wp2
       ((first | refine RegC.wp_region_ext1 (by kernel_rfl) (by kernel_rfl) ?_ | refine RegC.wp_region_ext0 (by kernel_rfl) (by kernel_rfl) ?_);(repeat (any_goals (first | go_big_quiet_step (fail) | (refine RegC.wpQuiet_split rfl rfl (fun hb=>?_) (fun hb=>?_)<;>simp only[hb]))));all_goals (refine wpQuiet_nil ?_;rintro _ ⟨nq,rfl⟩))
       go_wp2
       go_roundw
       case rel=>exact⟨1,by omega,by go_num,(by intro i p q h;omega),ext_of (by (try simp only[qdi]);repeat (first | exact Bel.refl _ | assumption | refine qdr ?_ _ | refine qds ?_ _ | refine Bel.ext ?_ _ | refine Bel.alloc ?_ _ | refine Bel.drewN ?_ _))⟩
       case measure=>(first | (simp[intOf];done) | (simp[intOf];omega))
     ·obtain rfl:k=l.length:=by omega
      have hinc:incB l=true:=(qmo l).2 fun i p q hp hq=>HA.out i p q (by have:=(List.getElem?_eq_some_iff.1 hq).1;omega) hp hq
      have HB:=Lib.hid (E3.out HC.out hinc);clear hinc
      go_wp2
      (go_ret;exact⟨qpv (by exact HB.out.symm),ext_of (by (try simp only[qdi]);repeat (first | exact Bel.refl _ | assumption | refine qdr ?_ _ | refine qds ?_ _ | refine Bel.ext ?_ _ | refine Bel.alloc ?_ _ | refine Bel.drewN ?_ _))⟩)
theorem qrj (n d v:Int) (h:qjo n d=v) (hn:-9223372036854775808<=n/\n<=9223372036854775807) (hd:-9223372036854775808<=d/\d<=9223372036854775807) (W:World):Calls Tryz.prog 27 #[.agg #[.int .i64 n,.int .i64 d]] W fun e w'=>e=.returned (.int .i64 v)/\∃ y,w'=ext W y:=by
 subst h;exact qq1 n d W hn hd
set_option maxRecDepth 10000 in
set_option maxHeartbeats 2000000 in
theorem qrk (p q:Pt) (n d:Int) (w:World) (hn:-9223372036854775808<=n/\n<=9223372036854775807) (hd:-9223372036854775808<=d/\d<=9223372036854775807) :
  Calls Tryz.prog 143 #[.agg #[.int .i64 p.id,.int .i64 p.a,.int .i64 p.b],.agg #[.int .i64 q.id,.int .i64 q.a,.int .i64 q.b],.agg #[.int .i64 n,.int .i64 d]] w fun e w'=>e=.returned (.int .i64 (qqu p q n d))/\∃ x,w'=ext w x:=by
 rcases qmy p with h1 | h1<;>rcases qmy q with h2 | h2<;>rcases qju n d with h3 | h3
 ·have q1:=Lib.hid (qrg p _ h1);have q2:=Lib.hid (qrg q _ h2);have q3:=Lib.hid (qrj n d _ h3 hn hd)
  by_cases hi:p.id=q.id
  ·have HR:=Lib.hid (qqw (p:=p) (q:=q) ⟨h1,h2,h3⟩ hi)
   have hi':(p.id==q.id)=true:=by simpa using hi
   clear h1 h2 h3 hn hd hi
   go_enter Tryz.func143,Tryz.ntmps143
   go_wp2
   ((first | refine RegC.wp_region_ext1 (by kernel_rfl) (by kernel_rfl) ?_ | refine RegC.wp_region_ext0 (by kernel_rfl) (by kernel_rfl) ?_);(repeat (any_goals (first | go_big_quiet_step (first | (go_at_call 75;with_reducible exact Calls.ext_of (q1.out _)) | (go_at_call 75;with_reducible exact Calls.ext_of (q2.out _)) | (go_at_call 27;with_reducible exact Calls.ext_of (q3.out _))) | (refine RegC.wpQuiet_split rfl rfl (fun hb=>?_) (fun hb=>?_)<;>simp only[hb]))));all_goals (refine wpQuiet_nil ?_;rintro _ ⟨nq,rfl⟩))
   go_wp2
   (go_ret;exact⟨qpv (by exact HR.out.symm),ext_of (by (try simp only[qdi]);repeat (first | exact Bel.refl _ | assumption | refine qdr ?_ _ | refine qds ?_ _ | refine Bel.ext ?_ _ | refine Bel.alloc ?_ _ | refine Bel.drewN ?_ _))⟩)
  ·have HR:=Lib.hid (qqx (p:=p) (q:=q) ⟨h1,h2,h3⟩ hi)
   have hi':(p.id==q.id)=false:=by simpa using hi
   clear h1 h2 h3 hn hd hi
   go_enter Tryz.func143,Tryz.ntmps143
   go_wp2
   ((first | refine RegC.wp_region_ext1 (by kernel_rfl) (by kernel_rfl) ?_ | refine RegC.wp_region_ext0 (by kernel_rfl) (by kernel_rfl) ?_);(repeat (any_goals (first | go_big_quiet_step (first | (go_at_call 75;with_reducible exact Calls.ext_of (q1.out _)) | (go_at_call 75;with_reducible exact Calls.ext_of (q2.out _)) | (go_at_call 27;with_reducible exact Calls.ext_of (q3.out _))) | (refine RegC.wpQuiet_split rfl rfl (fun hb=>?_) (fun hb=>?_)<;>simp only[hb]))));all_goals (refine wpQuiet_nil ?_;rintro _ ⟨nq,rfl⟩))
   go_wp2
   (go_ret;exact⟨qpv (by exact HR.out.symm),ext_of (by (try simp only[qdi]);repeat (first | exact Bel.refl _ | assumption | refine qdr ?_ _ | refine qds ?_ _ | refine Bel.ext ?_ _ | refine Bel.alloc ?_ _ | refine Bel.drewN ?_ _))⟩)
 all_goals
  have q1:=Lib.hid (qrg p _ h1)
  have q2:=Lib.hid (qrg q _ h2)
  have q3:=Lib.hid (qrj n d _ h3 hn hd)
  have HR:=Lib.hid (qqv (p:=p) (q:=q) (n:=n) (d:=d) (by rw[h1,h2,h3];decide))
  clear h1 h2 h3 hn hd
  go_enter Tryz.func143,Tryz.ntmps143
  go_wp2
  ((first | refine RegC.wp_region_ext1 (by kernel_rfl) (by kernel_rfl) ?_ | refine RegC.wp_region_ext0 (by kernel_rfl) (by kernel_rfl) ?_);(repeat (any_goals (first | go_big_quiet_step (first | (go_at_call 75;with_reducible exact Calls.ext_of (q1.out _)) | (go_at_call 75;with_reducible exact Calls.ext_of (q2.out _)) | (go_at_call 27;with_reducible exact Calls.ext_of (q3.out _))) | (refine RegC.wpQuiet_split rfl rfl (fun hb=>?_) (fun hb=>?_)<;>simp only[hb]))));all_goals (refine wpQuiet_nil ?_;rintro _ ⟨nq,rfl⟩))
  go_wp2
  (go_ret;exact⟨qpv (by exact HR.out.symm),ext_of (by (try simp only[qdi]);repeat (first | exact Bel.refl _ | assumption | refine qdr ?_ _ | refine qds ?_ _ | refine Bel.ext ?_ _ | refine Bel.alloc ?_ _ | refine Bel.drewN ?_ _))⟩)
theorem qrl {p q:Pt} {n d:Int} (hp:p.chk=0) (hq:q.chk=0) (hr:qjo n d=0) (hn:-9223372036854775808<=n/\n<=9223372036854775807) (hd:-9223372036854775808<=d/\d<=9223372036854775807):CmpIn p q n d:=by
 have h1:=qmx hp
 have h2:=qmx hq
 have h3:=qjv hr
 exact⟨by omega,by omega,by omega,by omega,by omega,by omega⟩
set_option maxRecDepth 10000 in
set_option maxHeartbeats 2000000 in
theorem qrm (p q:Pt) (n d:Int) (w:World) (hn:-9223372036854775808<=n/\n<=9223372036854775807) (hd:-9223372036854775808<=d/\d<=9223372036854775807) :
  Calls Tryz.prog 74 #[.agg #[.int .i64 p.id,.int .i64 p.a,.int .i64 p.b],.agg #[.int .i64 q.id,.int .i64 q.a,.int .i64 q.b],.agg #[.int .i64 n,.int .i64 d]] w fun e w'=>e=.returned (.tuple #[.bool (qqz p q n d).1,.int .i64 (qqz p q n d).2])/\∃ x,w'=ext w x:=by
 have q1:=Lib.hid (fun W=>qrk p q n d W hn hd)
 by_cases h:qqu p q n d=0
 ·have HV:Hid (qqz p q n d=(leads p q n d,0)):=Lib.hid (by unfold qqz;rw[if_pos h])
  obtain⟨h1,h2,h3,_⟩:=qqy h
  have q2:=Lib.hid (fun W=>qrf p q n d W (qrl h1 h2 h3 hn hd))
  rw[h]at q1
  have HL:=Lib.hid (qqt p q n d)
  obtain⟨C,hC⟩:∃ C,cmpC p q n d=C:=⟨_,rfl⟩
  rw[hC]at q2 HL
  clear h h1 h2 h3 hn hd hC
  go_enter Tryz.func74,Tryz.ntmps74
  go_wp2_with (first | (go_at_call 143;refine (q1.out _).mono ?_;rintro e _ ⟨rfl,nx,rfl⟩) | (go_at_call 144;refine (q2.out _).mono ?_;rintro e _ ⟨rfl,nx,rfl⟩))
  go_ret2
  exact⟨by rw[HV.out,← HL.out];rfl,ext_of (by (try simp only[qdi]);repeat (first | exact Bel.refl _ | assumption | refine qdr ?_ _ | refine qds ?_ _ | refine Bel.ext ?_ _ | refine Bel.alloc ?_ _ | refine Bel.drewN ?_ _))⟩
 ·have HV:Hid (qqz p q n d=(false,qqu p q n d)):=Lib.hid (by unfold qqz;rw[if_neg h])
  have hz:(qqu p q n d==0)=false:=by simpa using h
  have hz':(qqu p q n d != 0)=true:=by simpa using h
  clear h hn hd
  go_enter Tryz.func74,Tryz.ntmps74
  go_wp2_with ((go_at_call 143;refine (q1.out _).mono ?_;rintro e _ ⟨rfl,nx,rfl⟩))
  go_ret2
  exact⟨by rw[HV.out];rfl,ext_of (by (try simp only[qdi]);repeat (first | exact Bel.refl _ | assumption | refine qdr ?_ _ | refine qds ?_ _ | refine Bel.ext ?_ _ | refine Bel.alloc ?_ _ | refine Bel.drewN ?_ _))⟩
theorem wu (x:Int) (y:Nat) (h:x=y) (hy:y<18446744073709551616):IntKind.u64.wrap x=(y:Int):=by rw[IntKind.wrap_u64,h];omega
set_option maxRecDepth 10000 in
set_option maxHeartbeats 2000000 in
theorem qrn (a b:Nat) (w:World) (ha:a<18446744073709551616) (hb:b<18446744073709551616) :
  Calls Tryz.prog 71 #[.int .u64 a,.int .u64 b] w fun e w'=>e=.returned (.agg #[.bool false,.int .u64 ((a*b/18446744073709551616:Nat):Int),.int .u64 ((a*b%18446744073709551616:Nat):Int)])/\∃ x,w'=ext w x:=by
 obtain⟨ah,hah⟩:∃ x:Nat,a/4294967296=x:=⟨_,rfl⟩
 obtain⟨al,hal⟩:∃ x:Nat,a%4294967296=x:=⟨_,rfl⟩
 obtain⟨bh,hbh⟩:∃ x:Nat,b/4294967296=x:=⟨_,rfl⟩
 obtain⟨bl,hbl⟩:∃ x:Nat,b%4294967296=x:=⟨_,rfl⟩
 obtain⟨m0,hm0⟩:∃ x:Nat,al*bl=x:=⟨_,rfl⟩
 obtain⟨x1,hx1⟩:∃ x:Nat,ah*bl=x:=⟨_,rfl⟩
 obtain⟨y1,hy1⟩:∃ x:Nat,al*bh=x:=⟨_,rfl⟩
 obtain⟨z1,hz1⟩:∃ x:Nat,ah*bh=x:=⟨_,rfl⟩
 have b0:m0<=4294967295*4294967295:=by rw[← hm0];exact Nat.mul_le_mul (by omega) (by omega)
 have b1:x1<=4294967295*4294967295:=by rw[← hx1];exact Nat.mul_le_mul (by omega) (by omega)
 have b2:y1<=4294967295*4294967295:=by rw[← hy1];exact Nat.mul_le_mul (by omega) (by omega)
 have b3:z1<=4294967295*4294967295:=by rw[← hz1];exact Nat.mul_le_mul (by omega) (by omega)
 have hab:a*b=z1*18446744073709551616+(x1+y1)*4294967296+m0:=by
  have e1:a=ah*4294967296+al:=by omega
  have e2:b=bh*4294967296+bl:=by omega
  rw[e1,e2,Nat.add_mul,Nat.mul_add,Nat.mul_add]
  have f1:ah*4294967296*(bh*4294967296)=z1*18446744073709551616:=by rw[← hz1,Nat.mul_mul_mul_comm]
  have f2:ah*4294967296*bl=x1*4294967296:=by rw[← hx1,Nat.mul_right_comm]
  have f3:al*(bh*4294967296)=y1*4294967296:=by rw[← hy1,Nat.mul_assoc]
  rw[f1,f2,f3,hm0,Nat.add_mul];omega
 obtain⟨m0h,hm0h⟩:∃ x:Nat,m0/4294967296=x:=⟨_,rfl⟩
 obtain⟨lr,hlr⟩:∃ x:Nat,m0%4294967296=x:=⟨_,rfl⟩
 obtain⟨m,hm⟩:∃ x:Nat,x1+m0h=x:=⟨_,rfl⟩
 obtain⟨mr,hmr⟩:∃ x:Nat,m%4294967296=x:=⟨_,rfl⟩
 obtain⟨mq,hmq⟩:∃ x:Nat,m/4294967296=x:=⟨_,rfl⟩
 obtain⟨n,hn⟩:∃ x:Nat,y1+mr=x:=⟨_,rfl⟩
 obtain⟨nr,hnr⟩:∃ x:Nat,n%4294967296=x:=⟨_,rfl⟩
 obtain⟨nq,hnq⟩:∃ x:Nat,n/4294967296=x:=⟨_,rfl⟩
 obtain⟨z2,hz2⟩:∃ x:Nat,z1+mq=x:=⟨_,rfl⟩
 obtain⟨nn,hnn⟩:∃ x:Nat,nr*4294967296=x:=⟨_,rfl⟩
 have HF:Hid (((a*b/18446744073709551616:Nat):Int)=((z2+nq:Nat):Int)/\((a*b%18446744073709551616:Nat):Int)=((nn+lr:Nat):Int)):=Lib.hid (by rw[hab];omega)
 obtain⟨hi,hhi⟩:∃ x:Nat,z2+nq=x:=⟨_,rfl⟩
 obtain⟨lo,hlo⟩:∃ x:Nat,nn+lr=x:=⟨_,rfl⟩
 rw[hhi,hlo]at HF
 have e1:IntKind.u64.wrap ((al:Int)*bl)=(m0:Int):=wu _ _ (by rw[← hm0];simp) (by omega)
 have e3:IntKind.u64.wrap ((ah:Int)*bl)=(x1:Int):=wu _ _ (by rw[← hx1];simp) (by omega)
 have e6:IntKind.u64.wrap ((al:Int)*bh)=(y1:Int):=wu _ _ (by rw[← hy1];simp) (by omega)
 have e9:IntKind.u64.wrap ((ah:Int)*bh)=(z1:Int):=wu _ _ (by rw[← hz1];simp) (by omega)
 have e4:IntKind.u64.wrap ((x1:Int)+m0h)=(m:Int):=wu _ _ (by omega) (by omega)
 have e7:IntKind.u64.wrap ((y1:Int)+mr)=(n:Int):=wu _ _ (by omega) (by omega)
 have e10:IntKind.u64.wrap ((z1:Int)+mq)=(z2:Int):=wu _ _ (by omega) (by omega)
 have e12:IntKind.u64.wrap ((z2:Int)+nq)=(hi:Int):=wu _ _ (by omega) (by omega)
 have e14:IntKind.u64.wrap ((nr:Int)*4294967296)=(nn:Int):=wu _ _ (by omega) (by omega)
 have e16:IntKind.u64.wrap ((nn:Int)+lr)=(lo:Int):=wu _ _ (by omega) (by omega)
 have d1:(a:Int)/4294967296=(ah:Int):=by omega
 have d2:(a:Int)%4294967296=(al:Int):=by omega
 have d3:(b:Int)/4294967296=(bh:Int):=by omega
 have d4:(b:Int)%4294967296=(bl:Int):=by omega
 have d5:(m0:Int)/4294967296=(m0h:Int):=by omega
 have d6:(m0:Int)%4294967296=(lr:Int):=by omega
 have d7:(m:Int)/4294967296=(mq:Int):=by omega
 have d8:(m:Int)%4294967296=(mr:Int):=by omega
 have d9:(n:Int)/4294967296=(nq:Int):=by omega
 have d10:(n:Int)%4294967296=(nr:Int):=by omega
 have g0:m0<18446744073709551616:=by omega
 have g1:m<18446744073709551616:=by omega
 have g2:n<18446744073709551616:=by omega
 clear hah hal hbh hbl hm0 hx1 hy1 hz1 b0 b1 b2 b3 hab hm0h hlr hm hmr hmq hn hnr hnq hz2 hnn hhi hlo
 go_enter Tryz.func71,Tryz.ntmps71
 go_wp2
 exact bodyPost_ret (v:=.agg #[.bool false,.int .u64 (hi:Int),.int .u64 (lo:Int)]) (by simp[results,Tryz.results71,go_sem]) rfl ⟨by rw[HF.out.1,HF.out.2],ext_of (by (try simp only[qdi]);repeat (first | exact Bel.refl _ | assumption | refine qdr ?_ _ | refine qds ?_ _ | refine Bel.ext ?_ _ | refine Bel.alloc ?_ _ | refine Bel.drewN ?_ _))⟩
set_option maxRecDepth 10000 in
set_option maxHeartbeats 2000000 in
theorem qro (a b:Int) (w:World) (ha:-9223372036854775808<=a/\a<=9223372036854775807) (hb:-9223372036854775808<=b/\b<=9223372036854775807) :
  Calls Tryz.prog 21 #[.int .i64 a,.int .i64 b] w fun e w'=>e=.returned (.agg #[.bool (decide (a*b<0)),.int .u64 (((a*b).natAbs/18446744073709551616:Nat):Int),.int .u64 (((a*b).natAbs%18446744073709551616:Nat):Int)])/\∃ x,w'=ext w x:=by
 have q1:=Lib.hid (fun W=>qpy a W ha)
 have q2:=Lib.hid (fun W=>qpy b W hb)
 have q3:=Lib.hid (fun W=>qrn a.natAbs b.natAbs W (by omega) (by omega))
 rw[← Int.natAbs_mul]at q3
 obtain⟨H,hH⟩:∃ H:Nat,(a*b).natAbs/18446744073709551616=H:=⟨_,rfl⟩
 obtain⟨L,hL⟩:∃ H:Nat,(a*b).natAbs%18446744073709551616=H:=⟨_,rfl⟩
 rw[hH,hL]at q3 ⊢
 have hneg:decide (a*b<0)=(!(decide (a<0)==decide (b<0))&&(!(a==0) && !(b==0))):=by
  rcases Int.lt_trichotomy a 0 with h1 | h1 | h1<;>rcases Int.lt_trichotomy b 0 with h2 | h2 | h2
  ·have:=Int.mul_pos_of_neg_of_neg h1 h2;simp[h1,h2,show ¬ a*b<0 by omega]
  ·subst h2;simp
  ·have:=Int.mul_neg_of_neg_of_pos h1 h2;simp[h1,this,show ¬ b<0 by omega,show ¬ a=0 by omega,show ¬ b=0 by omega]
  ·subst h1;simp
  ·subst h1;simp
  ·subst h1;simp
  ·have:=Int.mul_neg_of_pos_of_neg h1 h2;simp[h2,this,show ¬ a<0 by omega,show ¬ a=0 by omega,show ¬ b=0 by omega]
  ·subst h2;simp
  ·have:=Int.mul_pos h1 h2;simp[show ¬ a*b<0 by omega,show ¬ a<0 by omega,show ¬ b<0 by omega]
 cases hk:(decide (a<0)==decide (b<0)) with
 | true =>
  have HN:Hid (decide (a*b<0)=false):=Lib.hid (by rw[hneg,hk];rfl)
  clear hneg hH hL ha hb
  go_enter Tryz.func21,Tryz.ntmps21
  go_wp2_with (first | (go_at_call 57;(with_reducible refine (q1.out _).mono ?_);rintro e _ ⟨rfl,nx,rfl⟩) | (go_at_call 57;(with_reducible refine (q2.out _).mono ?_);rintro e _ ⟨rfl,nx,rfl⟩) | (go_at_call 71;(with_reducible refine (q3.out _).mono ?_);rintro e _ ⟨rfl,nx,rfl⟩))
  exact bodyPost_ret (v:=.agg #[.bool false,.int .u64 (H:Int),.int .u64 (L:Int)]) (by simp[results,Tryz.results21,go_sem]) rfl ⟨by rw[HN.out],ext_of (by (try simp only[qdi]);repeat (first | exact Bel.refl _ | assumption | refine qdr ?_ _ | refine qds ?_ _ | refine Bel.ext ?_ _ | refine Bel.alloc ?_ _ | refine Bel.drewN ?_ _))⟩
 | false =>
  cases h1:(a==0) with
  | true =>
   have HN:Hid (decide (a*b<0)=false):=Lib.hid (by rw[hneg,hk,h1];rfl)
   have h1':(a != 0)=false:=by rw[bne,h1];rfl
   clear hneg hH hL ha hb
   go_enter Tryz.func21,Tryz.ntmps21
   go_wp2_with (first | (go_at_call 57;(with_reducible refine (q1.out _).mono ?_);rintro e _ ⟨rfl,nx,rfl⟩) | (go_at_call 57;(with_reducible refine (q2.out _).mono ?_);rintro e _ ⟨rfl,nx,rfl⟩) | (go_at_call 71;(with_reducible refine (q3.out _).mono ?_);rintro e _ ⟨rfl,nx,rfl⟩))
   exact bodyPost_ret (v:=.agg #[.bool false,.int .u64 (H:Int),.int .u64 (L:Int)]) (by simp[results,Tryz.results21,go_sem]) rfl ⟨by rw[HN.out],ext_of (by (try simp only[qdi]);repeat (first | exact Bel.refl _ | assumption | refine qdr ?_ _ | refine qds ?_ _ | refine Bel.ext ?_ _ | refine Bel.alloc ?_ _ | refine Bel.drewN ?_ _))⟩
  | false =>
   have h1':(a != 0)=true:=by rw[bne,h1];rfl
   cases h2:(b==0) with
   | true =>
    have HN:Hid (decide (a*b<0)=false):=Lib.hid (by rw[hneg,hk,h1,h2];rfl)
    have h2':(b != 0)=false:=by rw[bne,h2];rfl
    clear hneg hH hL ha hb
    go_enter Tryz.func21,Tryz.ntmps21
    go_wp2_with (first | (go_at_call 57;(with_reducible refine (q1.out _).mono ?_);rintro e _ ⟨rfl,nx,rfl⟩) | (go_at_call 57;(with_reducible refine (q2.out _).mono ?_);rintro e _ ⟨rfl,nx,rfl⟩) | (go_at_call 71;(with_reducible refine (q3.out _).mono ?_);rintro e _ ⟨rfl,nx,rfl⟩))
    exact bodyPost_ret (v:=.agg #[.bool false,.int .u64 (H:Int),.int .u64 (L:Int)]) (by simp[results,Tryz.results21,go_sem]) rfl ⟨by rw[HN.out],ext_of (by (try simp only[qdi]);repeat (first | exact Bel.refl _ | assumption | refine qdr ?_ _ | refine qds ?_ _ | refine Bel.ext ?_ _ | refine Bel.alloc ?_ _ | refine Bel.drewN ?_ _))⟩
   | false =>
    have HN:Hid (decide (a*b<0)=true):=Lib.hid (by rw[hneg,hk,h1,h2];rfl)
    have h2':(b != 0)=true:=by rw[bne,h2];rfl
    clear hneg hH hL ha hb
    go_enter Tryz.func21,Tryz.ntmps21
    go_wp2_with (first | (go_at_call 57;(with_reducible refine (q1.out _).mono ?_);rintro e _ ⟨rfl,nx,rfl⟩) | (go_at_call 57;(with_reducible refine (q2.out _).mono ?_);rintro e _ ⟨rfl,nx,rfl⟩) | (go_at_call 71;(with_reducible refine (q3.out _).mono ?_);rintro e _ ⟨rfl,nx,rfl⟩))
    exact bodyPost_ret (v:=.agg #[.bool true,.int .u64 (H:Int),.int .u64 (L:Int)]) (by simp[results,Tryz.results21,go_sem]) rfl ⟨by rw[HN.out],ext_of (by (try simp only[qdi]);repeat (first | exact Bel.refl _ | assumption | refine qdr ?_ _ | refine qds ?_ _ | refine Bel.ext ?_ _ | refine Bel.alloc ?_ _ | refine Bel.drewN ?_ _))⟩
set_option maxHeartbeats 1000000 in
theorem qrp (n1 n2:Bool) (h1 l1 h2 l2:Nat) (w:World) (b1:h1<18446744073709551616) (b2:l1<18446744073709551616) (b3:h2<18446744073709551616) (b4:l2<18446744073709551616) :
  Calls Tryz.prog 23 #[.agg #[.bool n1,.int .u64 h1,.int .u64 l1],.agg #[.bool n2,.int .u64 h2,.int .u64 l2]] w fun e w'=>e=.returned (.int .i64 (cmpZ ((h1:Int)*18446744073709551616+l1) ((h2:Int)*18446744073709551616+l2)))/\∃ x,w'=ext w x:=by
 rcases Nat.lt_trichotomy h1 h2 with h | h | h
 ·have HR:=Lib.hid (qqk (a:=(h1:Int)*18446744073709551616+l1) (b:=(h2:Int)*18446744073709551616+l2) (by omega))
  have e1:((h1:Int)==(h2:Int))=false:=by rw[beq_eq_false_iff_ne];omega
  have e2:((h1:Int) != (h2:Int))=true:=by rw[bne,e1];rfl
  have e3:(h1:Int)<(h2:Int):=by omega
  clear b1 b2 b3 b4
  go_enter Tryz.func23,Tryz.ntmps23
  go_wp2
  (go_ret;exact⟨qpv (by exact HR.out.symm),ext_of (by (try simp only[qdi]);repeat (first | exact Bel.refl _ | assumption | refine qdr ?_ _ | refine qds ?_ _ | refine Bel.ext ?_ _ | refine Bel.alloc ?_ _ | refine Bel.drewN ?_ _))⟩)
 ·subst h
  rcases Nat.lt_trichotomy l1 l2 with k | k | k
  ·have HR:=Lib.hid (qqk (a:=(h1:Int)*18446744073709551616+l1) (b:=(h1:Int)*18446744073709551616+l2) (by omega))
   have e1:((l1:Int)==(l2:Int))=false:=by rw[beq_eq_false_iff_ne];omega
   have e2:((l1:Int) != (l2:Int))=true:=by rw[bne,e1];rfl
   have e3:(l1:Int)<(l2:Int):=by omega
   clear b1 b2 b3 b4
   go_enter Tryz.func23,Tryz.ntmps23
   go_wp2
   (go_ret;exact⟨qpv (by exact HR.out.symm),ext_of (by (try simp only[qdi]);repeat (first | exact Bel.refl _ | assumption | refine qdr ?_ _ | refine qds ?_ _ | refine Bel.ext ?_ _ | refine Bel.alloc ?_ _ | refine Bel.drewN ?_ _))⟩)
  ·subst k
   have HR:=Lib.hid (qqm (a:=(h1:Int)*18446744073709551616+l1) (b:=(h1:Int)*18446744073709551616+l1) rfl)
   clear b1 b2 b3 b4
   go_enter Tryz.func23,Tryz.ntmps23
   go_wp2
   (go_ret;exact⟨qpv (by exact HR.out.symm),ext_of (by (try simp only[qdi]);repeat (first | exact Bel.refl _ | assumption | refine qdr ?_ _ | refine qds ?_ _ | refine Bel.ext ?_ _ | refine Bel.alloc ?_ _ | refine Bel.drewN ?_ _))⟩)
  ·have HR:=Lib.hid (qql (a:=(h1:Int)*18446744073709551616+l1) (b:=(h1:Int)*18446744073709551616+l2) (by omega))
   have e1:((l1:Int)==(l2:Int))=false:=by rw[beq_eq_false_iff_ne];omega
   have e2:((l1:Int) != (l2:Int))=true:=by rw[bne,e1];rfl
   have e3:¬ (l1:Int)<(l2:Int):=by omega
   clear b1 b2 b3 b4
   go_enter Tryz.func23,Tryz.ntmps23
   go_wp2
   (go_ret;exact⟨qpv (by exact HR.out.symm),ext_of (by (try simp only[qdi]);repeat (first | exact Bel.refl _ | assumption | refine qdr ?_ _ | refine qds ?_ _ | refine Bel.ext ?_ _ | refine Bel.alloc ?_ _ | refine Bel.drewN ?_ _))⟩)
 ·have HR:=Lib.hid (qql (a:=(h1:Int)*18446744073709551616+l1) (b:=(h2:Int)*18446744073709551616+l2) (by omega))
  have e1:((h1:Int)==(h2:Int))=false:=by rw[beq_eq_false_iff_ne];omega
  have e2:((h1:Int) != (h2:Int))=true:=by rw[bne,e1];rfl
  have e3:¬ (h1:Int)<(h2:Int):=by omega
  clear b1 b2 b3 b4
  go_enter Tryz.func23,Tryz.ntmps23
  go_wp2
  (go_ret;exact⟨qpv (by exact HR.out.symm),ext_of (by (try simp only[qdi]);repeat (first | exact Bel.refl _ | assumption | refine qdr ?_ _ | refine qds ?_ _ | refine Bel.ext ?_ _ | refine Bel.alloc ?_ _ | refine Bel.drewN ?_ _))⟩)
theorem wu' (x:Int) (y:Nat) (h:x=y∨x=(y:Int)-18446744073709551616) (hy:y<18446744073709551616):IntKind.u64.wrap x=(y:Int):=by rw[IntKind.wrap_u64];omega
set_option maxHeartbeats 1000000 in
theorem qrq (n1 n2:Bool) (M1 M2:Nat) (w:World) (h:M2<=M1) (hb:M1<340282366920938463463374607431768211456) :
  Calls Tryz.prog 239 #[.agg #[.bool n1,.int .u64 ((M1/18446744073709551616:Nat):Int),.int .u64 ((M1%18446744073709551616:Nat):Int)],.agg #[.bool n2,.int .u64 ((M2/18446744073709551616:Nat):Int),.int .u64 ((M2%18446744073709551616:Nat):Int)]] w
   fun e w'=>e=.returned (.agg #[.bool false,.int .u64 (((M1-M2)/18446744073709551616:Nat):Int),.int .u64 (((M1-M2)%18446744073709551616:Nat):Int)])/\∃ x,w'=ext w x:=by
 obtain⟨h1,e1⟩:∃ x,M1/18446744073709551616=x:=⟨_,rfl⟩
 obtain⟨l1,e2⟩:∃ x,M1%18446744073709551616=x:=⟨_,rfl⟩
 obtain⟨h2,e3⟩:∃ x,M2/18446744073709551616=x:=⟨_,rfl⟩
 obtain⟨l2,e4⟩:∃ x,M2%18446744073709551616=x:=⟨_,rfl⟩
 obtain⟨h3,e5⟩:∃ x,(M1-M2)/18446744073709551616=x:=⟨_,rfl⟩
 obtain⟨l3,e6⟩:∃ x,(M1-M2)%18446744073709551616=x:=⟨_,rfl⟩
 rw[e1,e2,e3,e4,e5,e6]
 have w1:IntKind.u64.wrap ((l1:Int)-l2)=(l3:Int):=wu' _ _ (by omega) (by omega)
 by_cases hl:l1<l2
 ·obtain⟨h4,e7⟩:∃ x,h1-h2=x:=⟨_,rfl⟩
  have w2:IntKind.u64.wrap ((h1:Int)-h2)=(h4:Int):=wu' _ _ (by omega) (by omega)
  have w3:IntKind.u64.wrap ((h4:Int)-1)=(h3:Int):=wu' _ _ (by omega) (by omega)
  have hl':(l1:Int)<(l2:Int):=by omega
  clear e1 e2 e3 e4 e5 e6 e7 h hb hl
  go_enter Tryz.func239,Tryz.ntmps239
  go_wp2
  exact bodyPost_ret (v:=.agg #[.bool false,.int .u64 (h3:Int),.int .u64 (l3:Int)]) (by simp[results,Tryz.results239,go_sem]) rfl ⟨by rfl,ext_of (by (try simp only[qdi]);repeat (first | exact Bel.refl _ | assumption | refine qdr ?_ _ | refine qds ?_ _ | refine Bel.ext ?_ _ | refine Bel.alloc ?_ _ | refine Bel.drewN ?_ _))⟩
 ·have w2:IntKind.u64.wrap ((h1:Int)-h2)=(h3:Int):=wu' _ _ (by omega) (by omega)
  have hl':¬ (l1:Int)<(l2:Int):=by omega
  clear e1 e2 e3 e4 e5 e6 h hb hl
  go_enter Tryz.func239,Tryz.ntmps239
  go_wp2
  exact bodyPost_ret (v:=.agg #[.bool false,.int .u64 (h3:Int),.int .u64 (l3:Int)]) (by simp[results,Tryz.results239,go_sem]) rfl ⟨by rfl,ext_of (by (try simp only[qdi]);repeat (first | exact Bel.refl _ | assumption | refine qdr ?_ _ | refine qds ?_ _ | refine Bel.ext ?_ _ | refine Bel.alloc ?_ _ | refine Bel.drewN ?_ _))⟩
set_option maxHeartbeats 1000000 in
theorem qrr (P:Int) (w:World) :
  Calls Tryz.prog 22 #[.agg #[.bool (decide (P<0)),.int .u64 ((P.natAbs/18446744073709551616:Nat):Int),.int .u64 ((P.natAbs%18446744073709551616:Nat):Int)]] w fun e w'=>e=.returned (.int .i64 (cmpZ P 0))/\∃ x,w'=ext w x:=by
 obtain⟨h1,e1⟩:∃ x,P.natAbs/18446744073709551616=x:=⟨_,rfl⟩
 obtain⟨l1,e2⟩:∃ x,P.natAbs%18446744073709551616=x:=⟨_,rfl⟩
 rw[e1,e2]
 rcases Int.lt_trichotomy P 0 with h | h | h
 ·have HR:=Lib.hid (qqk h)
  rw[decide_eq_true h]
  cases k1:((h1:Int)==0) with
  | true =>
   have k2:((l1:Int)==0)=false:=by rw[beq_iff_eq]at k1;rw[beq_eq_false_iff_ne];omega
   clear e1 e2 h
   go_enter Tryz.func22,Tryz.ntmps22
   go_wp2
   (go_ret;exact⟨qpv (by exact HR.out.symm),ext_of (by (try simp only[qdi]);repeat (first | exact Bel.refl _ | assumption | refine qdr ?_ _ | refine qds ?_ _ | refine Bel.ext ?_ _ | refine Bel.alloc ?_ _ | refine Bel.drewN ?_ _))⟩)
  | false =>
   clear e1 e2 h
   go_enter Tryz.func22,Tryz.ntmps22
   go_wp2
   (go_ret;exact⟨qpv (by exact HR.out.symm),ext_of (by (try simp only[qdi]);repeat (first | exact Bel.refl _ | assumption | refine qdr ?_ _ | refine qds ?_ _ | refine Bel.ext ?_ _ | refine Bel.alloc ?_ _ | refine Bel.drewN ?_ _))⟩)
 ·have HR:=Lib.hid (qqm h)
  have k1:h1=0:=by omega
  have k2:l1=0:=by omega
  subst h k1 k2
  clear e1 e2
  go_enter Tryz.func22,Tryz.ntmps22
  go_wp2
  (go_ret;exact⟨qpv (by exact HR.out.symm),ext_of (by (try simp only[qdi]);repeat (first | exact Bel.refl _ | assumption | refine qdr ?_ _ | refine qds ?_ _ | refine Bel.ext ?_ _ | refine Bel.alloc ?_ _ | refine Bel.drewN ?_ _))⟩)
 ·have HR:=Lib.hid (qql h)
  rw[decide_eq_false (by omega)]
  cases k1:((h1:Int)==0) with
  | true =>
   have k2:((l1:Int)==0)=false:=by rw[beq_iff_eq]at k1;rw[beq_eq_false_iff_ne];omega
   clear e1 e2 h
   go_enter Tryz.func22,Tryz.ntmps22
   go_wp2
   (go_ret;exact⟨qpv (by exact HR.out.symm),ext_of (by (try simp only[qdi]);repeat (first | exact Bel.refl _ | assumption | refine qdr ?_ _ | refine qds ?_ _ | refine Bel.ext ?_ _ | refine Bel.alloc ?_ _ | refine Bel.drewN ?_ _))⟩)
  | false =>
   clear e1 e2 h
   go_enter Tryz.func22,Tryz.ntmps22
   go_wp2
   (go_ret;exact⟨qpv (by exact HR.out.symm),ext_of (by (try simp only[qdi]);repeat (first | exact Bel.refl _ | assumption | refine qdr ?_ _ | refine qds ?_ _ | refine Bel.ext ?_ _ | refine Bel.alloc ?_ _ | refine Bel.drewN ?_ _))⟩)
set_option maxRecDepth 10000 in
set_option maxHeartbeats 2000000 in
theorem qrs (P Q:Int) (w:World) (hP:P.natAbs<85070591730234615865843651857942052864) (hQ:Q.natAbs<85070591730234615865843651857942052864) :
  Calls Tryz.prog 223 #[.agg #[.bool (decide (P<0)),.int .u64 ((P.natAbs/18446744073709551616:Nat):Int),.int .u64 ((P.natAbs%18446744073709551616:Nat):Int)],.agg #[.bool (decide (Q<0)),.int .u64 ((Q.natAbs/18446744073709551616:Nat):Int),.int .u64 ((Q.natAbs%18446744073709551616:Nat):Int)]] w
   fun e w'=>e=.returned (.agg #[.bool (decide (P+Q<0)),.int .u64 (((P+Q).natAbs/18446744073709551616:Nat):Int),.int .u64 (((P+Q).natAbs%18446744073709551616:Nat):Int)])/\∃ x,w'=ext w x:=by
 obtain⟨h1,e1⟩:∃ x,P.natAbs/18446744073709551616=x:=⟨_,rfl⟩
 obtain⟨l1,e2⟩:∃ x,P.natAbs%18446744073709551616=x:=⟨_,rfl⟩
 obtain⟨h2,e3⟩:∃ x,Q.natAbs/18446744073709551616=x:=⟨_,rfl⟩
 obtain⟨l2,e4⟩:∃ x,Q.natAbs%18446744073709551616=x:=⟨_,rfl⟩
 obtain⟨h3,e5⟩:∃ x,(P+Q).natAbs/18446744073709551616=x:=⟨_,rfl⟩
 obtain⟨l3,e6⟩:∃ x,(P+Q).natAbs%18446744073709551616=x:=⟨_,rfl⟩
 by_cases hs:decide (P<0)=decide (Q<0)
 ·rw[e1,e2,e3,e4,e5,e6]
  have hR:decide (P+Q<0)=decide (P<0):=by
   by_cases h:P<0
   ·have hq:Q<0:=by rw[decide_eq_true h]at hs;exact of_decide_eq_true hs.symm
    rw[decide_eq_true h,decide_eq_true (by omega)]
   ·have hq:¬ Q<0:=by rw[decide_eq_false h]at hs;exact of_decide_eq_false hs.symm
    rw[decide_eq_false h,decide_eq_false (by omega)]
  have habs:(P+Q).natAbs=P.natAbs+Q.natAbs:=by
   by_cases h:P<0
   ·have hq:Q<0:=by rw[decide_eq_true h]at hs;exact of_decide_eq_true hs.symm
    omega
   ·have hq:¬ Q<0:=by rw[decide_eq_false h]at hs;exact of_decide_eq_false hs.symm
    omega
  rw[hR,← hs]
  obtain⟨s,hsv⟩:∃ s,decide (P<0)=s:=⟨_,rfl⟩
  rw[hsv]
  have w1:IntKind.u64.wrap ((l1:Int)+l2)=(l3:Int):=by rw[IntKind.wrap_u64];omega
  obtain⟨h4,e7⟩:∃ x,h1+h2=x:=⟨_,rfl⟩
  have w2:IntKind.u64.wrap ((h1:Int)+h2)=(h4:Int):=wu _ _ (by omega) (by omega)
  by_cases hl:l3<l1
  ·have w3:IntKind.u64.wrap ((h4:Int)+1)=(h3:Int):=wu _ _ (by omega) (by omega)
   have hl':(l3:Int)<(l1:Int):=by omega
   clear e1 e2 e3 e4 e5 e6 e7 hP hQ hl hs hR hsv habs
   cases s with
   | false =>
    go_enter Tryz.func223,Tryz.ntmps223
    go_wp2
    exact bodyPost_ret (v:=.agg #[.bool false,.int .u64 (h3:Int),.int .u64 (l3:Int)]) (by simp[results,Tryz.results223,go_sem]) rfl ⟨by rfl,ext_of (by (try simp only[qdi]);repeat (first | exact Bel.refl _ | assumption | refine qdr ?_ _ | refine qds ?_ _ | refine Bel.ext ?_ _ | refine Bel.alloc ?_ _ | refine Bel.drewN ?_ _))⟩
   | true =>
    go_enter Tryz.func223,Tryz.ntmps223
    go_wp2
    exact bodyPost_ret (v:=.agg #[.bool true,.int .u64 (h3:Int),.int .u64 (l3:Int)]) (by simp[results,Tryz.results223,go_sem]) rfl ⟨by rfl,ext_of (by (try simp only[qdi]);repeat (first | exact Bel.refl _ | assumption | refine qdr ?_ _ | refine qds ?_ _ | refine Bel.ext ?_ _ | refine Bel.alloc ?_ _ | refine Bel.drewN ?_ _))⟩
  ·obtain rfl:h4=h3:=by omega
   have hl':¬ (l3:Int)<(l1:Int):=by omega
   clear e1 e2 e3 e4 e5 e6 e7 hP hQ hl hs hR hsv habs
   cases s with
   | false =>
    go_enter Tryz.func223,Tryz.ntmps223
    go_wp2
    exact bodyPost_ret (v:=.agg #[.bool false,.int .u64 (h4:Int),.int .u64 (l3:Int)]) (by simp[results,Tryz.results223,go_sem]) rfl ⟨by rfl,ext_of (by (try simp only[qdi]);repeat (first | exact Bel.refl _ | assumption | refine qdr ?_ _ | refine qds ?_ _ | refine Bel.ext ?_ _ | refine Bel.alloc ?_ _ | refine Bel.drewN ?_ _))⟩
   | true =>
    go_enter Tryz.func223,Tryz.ntmps223
    go_wp2
    exact bodyPost_ret (v:=.agg #[.bool true,.int .u64 (h4:Int),.int .u64 (l3:Int)]) (by simp[results,Tryz.results223,go_sem]) rfl ⟨by rfl,ext_of (by (try simp only[qdi]);repeat (first | exact Bel.refl _ | assumption | refine qdr ?_ _ | refine qds ?_ _ | refine Bel.ext ?_ _ | refine Bel.alloc ?_ _ | refine Bel.drewN ?_ _))⟩
 ·have q1:=Lib.hid (fun W=>qrp (decide (P<0)) (decide (Q<0)) h1 l1 h2 l2 W (by omega) (by omega) (by omega) (by omega))
  have m1:(h1:Int)*18446744073709551616+l1=P.natAbs:=by omega
  have m2:(h2:Int)*18446744073709551616+l2=Q.natAbs:=by omega
  rw[m1,m2]at q1
  by_cases hge:Q.natAbs<=P.natAbs
  ·have q2:=Lib.hid (fun W=>qrq (decide (P<0)) (decide (Q<0)) P.natAbs Q.natAbs W hge (by omega))
   have habs:P.natAbs-Q.natAbs=(P+Q).natAbs:=by
    by_cases h:P<0
    ·have hq:¬ Q<0:=by intro hq;rw[decide_eq_true h,decide_eq_true hq]at hs;exact hs rfl
     omega
    ·have hq:Q<0:=by
      rcases Classical.em (Q<0) with hq | hq
      ·exact hq
      ·rw[decide_eq_false h,decide_eq_false hq]at hs;exact absurd rfl hs
     omega
   rw[habs,e1,e2,e3,e4,e5,e6]at q2
   rw[e1,e2,e3,e4,e5,e6]
   have hc:Hid (∃ v:Int,0<=v/\cmpZ (P.natAbs:Int) Q.natAbs=v):=Lib.hid (by
    by_cases h:P.natAbs=Q.natAbs
    ·exact⟨0,by omega,qqm (by omega)⟩
    ·exact⟨1,by omega,qql (by omega)⟩)
   obtain⟨v,hv,hv2⟩:=hc.out
   rw[hv2]at q1
   by_cases h:P<0
   ·rw[decide_eq_true h]at q1 q2 ⊢
    have hq:¬ Q<0:=by intro hq;rw[decide_eq_true h,decide_eq_true hq]at hs;exact hs rfl
    rw[decide_eq_false hq]at q1 q2 ⊢
    by_cases h0:(P+Q).natAbs=0
    ·have hR:=Lib.hid (decide_eq_false (show ¬ P+Q<0 by omega))
     obtain rfl:h3=0:=by omega
     obtain rfl:l3=0:=by omega
     clear e1 e2 e3 e4 e5 e6 m1 m2 hge habs hc hv2 h hq h0 hs hP hQ
     go_enter Tryz.func223,Tryz.ntmps223
     go_wp2_with (first | (go_at_call 23;refine (q1.out _).mono ?_;rintro e _ ⟨rfl,nx,rfl⟩) | (go_at_call 239;refine (q2.out _).mono ?_;rintro e _ ⟨rfl,nx,rfl⟩))
     exact bodyPost_ret (v:=.agg #[.bool false,.int .u64 0,.int .u64 0]) (by simp[results,Tryz.results223,go_sem]) rfl ⟨by (rw[hR.out];rfl),ext_of (by (try simp only[qdi]);repeat (first | exact Bel.refl _ | assumption | refine qdr ?_ _ | refine qds ?_ _ | refine Bel.ext ?_ _ | refine Bel.alloc ?_ _ | refine Bel.drewN ?_ _))⟩
    ·have hR:=Lib.hid (decide_eq_true (show P+Q<0 by omega))
     by_cases h30:0<h3
     ·have k1:(0:Int)<(h3:Int):=by omega
      clear e1 e2 e3 e4 e5 e6 m1 m2 hge habs hc hv2 h hq h0 hs hP hQ
      go_enter Tryz.func223,Tryz.ntmps223
      go_wp2_with (first | (go_at_call 23;refine (q1.out _).mono ?_;rintro e _ ⟨rfl,nx,rfl⟩) | (go_at_call 239;refine (q2.out _).mono ?_;rintro e _ ⟨rfl,nx,rfl⟩))
      exact bodyPost_ret (v:=.agg #[.bool true,.int .u64 (h3:Int),.int .u64 (l3:Int)]) (by simp[results,Tryz.results223,go_sem]) rfl ⟨by (rw[hR.out]),ext_of (by (try simp only[qdi]);repeat (first | exact Bel.refl _ | assumption | refine qdr ?_ _ | refine qds ?_ _ | refine Bel.ext ?_ _ | refine Bel.alloc ?_ _ | refine Bel.drewN ?_ _))⟩
     ·have k1:¬ (0:Int)<(h3:Int):=by omega
      have k2:(0:Int)<(l3:Int):=by omega
      have k2d:decide (0<l3)=true:=decide_eq_true (by omega)
      clear e1 e2 e3 e4 e5 e6 m1 m2 hge habs hc hv2 h hq h0 hs hP hQ
      go_enter Tryz.func223,Tryz.ntmps223
      go_wp2_with (first | (go_at_call 23;refine (q1.out _).mono ?_;rintro e _ ⟨rfl,nx,rfl⟩) | (go_at_call 239;refine (q2.out _).mono ?_;rintro e _ ⟨rfl,nx,rfl⟩))
      exact bodyPost_ret (v:=.agg #[.bool true,.int .u64 (h3:Int),.int .u64 (l3:Int)]) (by simp[results,Tryz.results223,go_sem]) rfl ⟨by rw[hR.out],ext_of (by (try simp only[qdi]);repeat (first | exact Bel.refl _ | assumption | refine qdr ?_ _ | refine qds ?_ _ | refine Bel.ext ?_ _ | refine Bel.alloc ?_ _ | refine Bel.drewN ?_ _))⟩
   ·rw[decide_eq_false h]at q1 q2 ⊢
    have hq:Q<0:=by
     rcases Classical.em (Q<0) with hq | hq
     ·exact hq
     ·rw[decide_eq_false h,decide_eq_false hq]at hs;exact absurd rfl hs
    rw[decide_eq_true hq]at q1 q2 ⊢
    have hR:=Lib.hid (decide_eq_false (show ¬ P+Q<0 by omega))
    clear e1 e2 e3 e4 e5 e6 m1 m2 hge habs hc hv2 h hq hs hP hQ
    go_enter Tryz.func223,Tryz.ntmps223
    go_wp2_with (first | (go_at_call 23;refine (q1.out _).mono ?_;rintro e _ ⟨rfl,nx,rfl⟩) | (go_at_call 239;refine (q2.out _).mono ?_;rintro e _ ⟨rfl,nx,rfl⟩))
    exact bodyPost_ret (v:=.agg #[.bool false,.int .u64 (h3:Int),.int .u64 (l3:Int)]) (by simp[results,Tryz.results223,go_sem]) rfl ⟨by (rw[hR.out]),ext_of (by (try simp only[qdi]);repeat (first | exact Bel.refl _ | assumption | refine qdr ?_ _ | refine qds ?_ _ | refine Bel.ext ?_ _ | refine Bel.alloc ?_ _ | refine Bel.drewN ?_ _))⟩
  ·have q2:=Lib.hid (fun W=>qrq (decide (Q<0)) (decide (P<0)) Q.natAbs P.natAbs W (by omega) (by omega))
   have habs:Q.natAbs-P.natAbs=(P+Q).natAbs:=by
    by_cases h:P<0
    ·have hq:¬ Q<0:=by intro hq;rw[decide_eq_true h,decide_eq_true hq]at hs;exact hs rfl
     omega
    ·have hq:Q<0:=by
      rcases Classical.em (Q<0) with hq | hq
      ·exact hq
      ·rw[decide_eq_false h,decide_eq_false hq]at hs;exact absurd rfl hs
     omega
   rw[habs,e1,e2,e3,e4,e5,e6]at q2
   rw[e1,e2,e3,e4,e5,e6]
   rw[qqk (show (P.natAbs:Int)<Q.natAbs by omega)]at q1
   by_cases h:P<0
   ·rw[decide_eq_true h]at q1 q2 ⊢
    have hq:¬ Q<0:=by intro hq;rw[decide_eq_true h,decide_eq_true hq]at hs;exact hs rfl
    rw[decide_eq_false hq]at q1 q2 ⊢
    have hR:=Lib.hid (decide_eq_false (show ¬ P+Q<0 by omega))
    clear e1 e2 e3 e4 e5 e6 m1 m2 hge habs h hq hs hP hQ
    go_enter Tryz.func223,Tryz.ntmps223
    go_wp2_with (first | (go_at_call 23;refine (q1.out _).mono ?_;rintro e _ ⟨rfl,nx,rfl⟩) | (go_at_call 239;refine (q2.out _).mono ?_;rintro e _ ⟨rfl,nx,rfl⟩))
    exact bodyPost_ret (v:=.agg #[.bool false,.int .u64 (h3:Int),.int .u64 (l3:Int)]) (by simp[results,Tryz.results223,go_sem]) rfl ⟨by (rw[hR.out]),ext_of (by (try simp only[qdi]);repeat (first | exact Bel.refl _ | assumption | refine qdr ?_ _ | refine qds ?_ _ | refine Bel.ext ?_ _ | refine Bel.alloc ?_ _ | refine Bel.drewN ?_ _))⟩
   ·rw[decide_eq_false h]at q1 q2 ⊢
    have hq:Q<0:=by
     rcases Classical.em (Q<0) with hq | hq
     ·exact hq
     ·rw[decide_eq_false h,decide_eq_false hq]at hs;exact absurd rfl hs
    rw[decide_eq_true hq]at q1 q2 ⊢
    have hR:=Lib.hid (decide_eq_true (show P+Q<0 by omega))
    clear e1 e2 e3 e4 e5 e6 m1 m2 hge habs h hq hs hP hQ
    go_enter Tryz.func223,Tryz.ntmps223
    go_wp2_with (first | (go_at_call 23;refine (q1.out _).mono ?_;rintro e _ ⟨rfl,nx,rfl⟩) | (go_at_call 239;refine (q2.out _).mono ?_;rintro e _ ⟨rfl,nx,rfl⟩))
    exact bodyPost_ret (v:=.agg #[.bool true,.int .u64 (h3:Int),.int .u64 (l3:Int)]) (by simp[results,Tryz.results223,go_sem]) rfl ⟨by (rw[hR.out]),ext_of (by (try simp only[qdi]);repeat (first | exact Bel.refl _ | assumption | refine qdr ?_ _ | refine qds ?_ _ | refine Bel.ext ?_ _ | refine Bel.alloc ?_ _ | refine Bel.drewN ?_ _))⟩
set_option maxRecDepth 10000 in
set_option maxHeartbeats 2000000 in
theorem qrt (p q:Pt) (n d:Int) (w:World) (h:CmpIn p q n d) :
  Calls Tryz.prog 199 #[.agg #[.int .i64 p.id,.int .i64 p.a,.int .i64 p.b],.agg #[.int .i64 q.id,.int .i64 q.a,.int .i64 q.b],.agg #[.int .i64 n,.int .i64 d]] w fun e w'=>e=.returned (.int .i64 (cmpZ (farD p q n d) 0))/\∃ x,w'=ext w x:=by
 obtain⟨k1,k2⟩:=qrd h
 obtain⟨h1,h2,h3,h4,h5,h6⟩:=h
 obtain⟨P,hP⟩:∃ P,(p.a-q.a)*d=P:=⟨_,rfl⟩
 obtain⟨Q,hQ⟩:∃ Q,(p.b-q.b)*n=Q:=⟨_,rfl⟩
 have q1:=fun W=>qro (p.a-q.a) d W (by omega) (by omega)
 have q2:=fun W=>qro (p.b-q.b) n W (by omega) (by omega)
 have hD:farD p q n d=P+Q:=by unfold farD;rw[hP,hQ]
 rw[hP]at q1 k1
 rw[hQ]at q2 k2
 have q3:=fun W=>qrs P Q W (by omega) (by omega)
 have q4:=fun W=>qrr (P+Q) W
 obtain⟨x1,y1⟩:∃ x,P.natAbs/18446744073709551616=x:=⟨_,rfl⟩
 obtain⟨x2,y2⟩:∃ x,P.natAbs%18446744073709551616=x:=⟨_,rfl⟩
 obtain⟨x3,y3⟩:∃ x,Q.natAbs/18446744073709551616=x:=⟨_,rfl⟩
 obtain⟨x4,y4⟩:∃ x,Q.natAbs%18446744073709551616=x:=⟨_,rfl⟩
 obtain⟨x5,y5⟩:∃ x,(P+Q).natAbs/18446744073709551616=x:=⟨_,rfl⟩
 obtain⟨x6,y6⟩:∃ x,(P+Q).natAbs%18446744073709551616=x:=⟨_,rfl⟩
 obtain⟨s1,z1⟩:∃ x,decide (P<0)=x:=⟨_,rfl⟩
 obtain⟨s2,z2⟩:∃ x,decide (Q<0)=x:=⟨_,rfl⟩
 obtain⟨s3,z3⟩:∃ x,decide (P+Q<0)=x:=⟨_,rfl⟩
 rw[y1,y2,z1]at q1
 rw[y3,y4,z2]at q2
 simp only[y1,y2,y3,y4,y5,y6,z1,z2,z3]at q3
 simp only[y5,y6,z3]at q4
 clear y1 y2 y3 y4 y5 y6 z1 z2 z3
 have Q3:=Lib.hid q3
 have Q4:=Lib.hid q4
 have Q1:=Lib.hid q1
 have Q2:=Lib.hid q2
 rw[hD]
 obtain⟨a1,a2⟩:=h1;obtain⟨a3,a4⟩:=h2;obtain⟨a5,a6⟩:=h3;obtain⟨a7,a8⟩:=h4
 clear q1 q2 q3 q4 hP hQ hD k1 k2 h5 h6
 go_enter Tryz.func199,Tryz.ntmps199
 go_wp2
 have j1:IntKind.i64.wrap (p.a-q.a)=p.a-q.a:=IntWalk.i64_in _ (by omega)
 have j2:IntKind.i64.wrap (p.b-q.b)=p.b-q.b:=IntWalk.i64_in _ (by omega)
 ((first | refine RegC.wp_region_ext1 (by kernel_rfl) (by kernel_rfl) ?_ | refine RegC.wp_region_ext0 (by kernel_rfl) (by kernel_rfl) ?_);(repeat (any_goals (first | go_big_quiet_step (first | (go_at_call 21;with_reducible exact Calls.ext_of (Q1.out _)) | (go_at_call 21;with_reducible exact Calls.ext_of (Q2.out _)) | (go_at_call 223;with_reducible exact Calls.ext_of (Q3.out _)) | (go_at_call 22;with_reducible exact Calls.ext_of (Q4.out _))) | (refine RegC.wpQuiet_split rfl rfl (fun hb=>?_) (fun hb=>?_)<;>simp only[hb]))));all_goals (refine wpQuiet_nil ?_;rintro _ ⟨nq,rfl⟩))
 clear j1 j2
 go_wp2
 (go_ret;exact⟨qpv (by rfl),ext_of (by (try simp only[qdi]);repeat (first | exact Bel.refl _ | assumption | refine qdr ?_ _ | refine qds ?_ _ | refine Bel.ext ?_ _ | refine Bel.alloc ?_ _ | refine Bel.drewN ?_ _))⟩)
set_option maxRecDepth 10000 in
set_option maxHeartbeats 2000000 in
theorem qru (p q:Pt) (n d:Int) (w:World) (h:CmpIn p q n d) :
  Calls Tryz.prog 155 #[.agg #[.int .i64 p.id,.int .i64 p.a,.int .i64 p.b],.agg #[.int .i64 q.id,.int .i64 q.a,.int .i64 q.b],.agg #[.int .i64 n,.int .i64 d]] w fun e w'=>e=.returned (.bool (leads p q n d))/\∃ x,w'=ext w x:=by
 have q1:=Lib.hid (fun W=>qrt p q n d W h)
 rcases (by omega:farD p q n d<0∨farD p q n d=0∨0<farD p q n d) with hd | hd | hd
 ·have HR:Hid (leads p q n d=false):=Lib.hid (by unfold leads;rw[if_pos (by omega)];simp;omega)
  rw[qqk hd]at q1
  clear hd h
  go_enter Tryz.func155,Tryz.ntmps155
  go_wp2_with ((go_at_call 199;refine (q1.out _).mono ?_;rintro e _ ⟨rfl,nx,rfl⟩))
  (go_ret;exact⟨qpw (by rw[HR.out]),ext_of (by (try simp only[qdi]);repeat (first | exact Bel.refl _ | assumption | refine qdr ?_ _ | refine qds ?_ _ | refine Bel.ext ?_ _ | refine Bel.alloc ?_ _ | refine Bel.drewN ?_ _))⟩)
 ·rw[qqm hd]at q1
  by_cases hb:p.b=q.b
  ·have HR:Hid (leads p q n d=decide (p.id<q.id)):=Lib.hid (by unfold leads;rw[if_neg (by omega),if_neg (by omega)])
   have hb':(p.b==q.b)=true:=by simpa using hb
   have hb2:(p.b != q.b)=false:=by simpa using hb
   clear hd h hb
   go_enter Tryz.func155,Tryz.ntmps155
   go_wp2_with ((go_at_call 199;refine (q1.out _).mono ?_;rintro e _ ⟨rfl,nx,rfl⟩))
   (go_ret;exact⟨qpw (by exact HR.out.symm),ext_of (by (try simp only[qdi]);repeat (first | exact Bel.refl _ | assumption | refine qdr ?_ _ | refine qds ?_ _ | refine Bel.ext ?_ _ | refine Bel.alloc ?_ _ | refine Bel.drewN ?_ _))⟩)
  ·have HR:Hid (leads p q n d=decide (q.b<p.b)):=Lib.hid (by unfold leads;rw[if_neg (by omega),if_pos hb])
   have hb':(p.b==q.b)=false:=by simpa using hb
   have hb2:(p.b != q.b)=true:=by simpa using hb
   clear hd h hb
   go_enter Tryz.func155,Tryz.ntmps155
   go_wp2_with ((go_at_call 199;refine (q1.out _).mono ?_;rintro e _ ⟨rfl,nx,rfl⟩))
   (go_ret;exact⟨qpw (by exact HR.out.symm),ext_of (by (try simp only[qdi]);repeat (first | exact Bel.refl _ | assumption | refine qdr ?_ _ | refine qds ?_ _ | refine Bel.ext ?_ _ | refine Bel.alloc ?_ _ | refine Bel.drewN ?_ _))⟩)
 ·have HR:Hid (leads p q n d=true):=Lib.hid (by unfold leads;rw[if_pos (by omega)];exact decide_eq_true hd)
  rw[qql hd]at q1
  clear hd h
  go_enter Tryz.func155,Tryz.ntmps155
  go_wp2_with ((go_at_call 199;refine (q1.out _).mono ?_;rintro e _ ⟨rfl,nx,rfl⟩))
  (go_ret;exact⟨qpw (by rw[HR.out]),ext_of (by (try simp only[qdi]);repeat (first | exact Bel.refl _ | assumption | refine qdr ?_ _ | refine qds ?_ _ | refine Bel.ext ?_ _ | refine Bel.alloc ?_ _ | refine Bel.drewN ?_ _))⟩)
theorem qrv:SlT Tryz.prog 24 39 (.agg #[.int .i64 0,.int .i64 0,.int .i64 0]) 3 24:=⟨by kernel_rfl,by kernel_rfl,by kernel_rfl,by decide,by decide⟩
def eqP (i a b i' a' b':Int):Bool:=decide (i=i'/\a=a'/\b=b')
theorem qrw (p:Pt):eqP p.id p.a p.b p.id p.a p.b=true:=by simp[eqP]
theorem qrx {p q:Pt} (h:¬ p=q):eqP p.id p.a p.b q.id q.a q.b=false:=by
 unfold eqP;rw[decide_eq_false_iff_not];rintro⟨h1,h2,h3⟩;exact h (by cases p;cases q;simp at *;exact⟨h1,h2,h3⟩)
theorem qry (i a b i' a' b':Int) (w:World):(Op.equalIn 10000 39 (.agg #[.int .i64 i,.int .i64 a,.int .i64 b]) (.agg #[.int .i64 i',.int .i64 a',.int .i64 b'])).run Tryz.prog w=.ok (eqP i a b i' a' b') w:=by
 simp[go_sem]
 unfold eqP
 by_cases h1:i=i'<;>by_cases h2:a=a'<;>by_cases h3:b=b'<;>simp[h1,h2,h3]
attribute [local go_sem ↓] qry
set_option maxRecDepth 10000 in
set_option maxHeartbeats 2000000 in
theorem qrz (A:Option Addr) (c:Nat) (l:List Pt) (w:World) (hs:Sl w 3 A l.length c (vp l)) :
  Calls Tryz.prog 16 #[.agg #[.slice A l.length c]] w fun e w'=>e=.returned (.int .i64 (qmq l))/\∃ x,w'=ext w x:=by
 by_cases hm:64<l.length
 ·have E1:=Lib.hid (qmr hm)
  go_enter Tryz.func16,Tryz.ntmps16
  go_wp2
  (go_ret;exact⟨qpv (by exact E1.out.symm),ext_of (by (try simp only[qdi]);repeat (first | exact Bel.refl _ | assumption | refine qdr ?_ _ | refine qds ?_ _ | refine Bel.ext ?_ _ | refine Bel.alloc ?_ _ | refine Bel.drewN ?_ _))⟩)
 ·have E1:=Lib.hid (fun p (hp:p∈l) hc=>qms (l:=l) (by omega) hp hc)
  have E2:=Lib.hid (qmt (l:=l) (by omega))
  have E3:=Lib.hid (qmu (l:=l) (by omega))
  go_enter Tryz.func16,Tryz.ntmps16
  go_wp2
  go_loopw [3] (fun i wr=>∃ (k:Nat),k<=l.length/\i=.int .i64 k/\(∀ p∈l.take k,p.chk=0)/\∃ y,wr=ext (w.alloc (.cells #[.slice A l.length c] 26)) y) (fun i _=>l.length-(intOf i).toNat)
  case atStart=>exact⟨0,Nat.zero_le _,rfl,by simp,ext_of (Bel.refl _)⟩
  case round =>
   obtain⟨k,hk,rfl,hall,y,rfl⟩:=hrel
   have HA:=Lib.hid hall;clear hall
   by_cases hlt:k<l.length
   ·obtain⟨p,hp⟩:∃ p,l[k]?=some p:=⟨_,List.getElem?_eq_getElem hlt⟩
    obtain⟨b,o,rfl,hb⟩:=hs.at_ (by omega)
    obtain⟨r0,r1,r2⟩:=qmn hs hp
    have HP:=Lib.hid hp;clear hp
    rcases qmy p with h | h
    ·have e1:=Lib.hid (qrh p 0 h)
     have HC:=Lib.hid h;clear h
     go_wp2_with ((go_at_call 55;refine (e1.out _).mono ?_;rintro e _ ⟨rfl,nx,rfl⟩))
     go_roundw
     case rel =>
      refine⟨k+1,by omega,by go_num,?_,ext_of (by (try simp only[qdi]);repeat (first | exact Bel.refl _ | assumption | refine qdr ?_ _ | refine qds ?_ _ | refine Bel.ext ?_ _ | refine Bel.alloc ?_ _ | refine Bel.drewN ?_ _))⟩
      intro q hq
      rw[List.take_add_one,HP.out]at hq
      rcases List.mem_append.1 hq with hq | hq
      ·exact HA.out q hq
      ·simp at hq;subst hq;exact HC.out
     case measure=>(first | (simp[intOf];done) | (simp[intOf];omega))
    ·have e1:=Lib.hid (qrh p 8 h)
     have HC:=Lib.hid (E1.out p (List.mem_of_getElem? HP.out) (by rw[h];decide));clear h
     go_wp2_with ((go_at_call 55;refine (e1.out _).mono ?_;rintro e _ ⟨rfl,nx,rfl⟩))
     (go_ret;exact⟨qpv (by exact HC.out.symm),ext_of (by (try simp only[qdi]);repeat (first | exact Bel.refl _ | assumption | refine qdr ?_ _ | refine qds ?_ _ | refine Bel.ext ?_ _ | refine Bel.alloc ?_ _ | refine Bel.drewN ?_ _))⟩)
   ·obtain rfl:k=l.length:=by omega
    have hc0:=HA.out
    rw[List.take_length]at hc0
    have HC:=Lib.hid hc0;clear hc0
    go_wp2
    go_loopw [4] (fun i wr=>∃ (k:Nat),k<=l.length+1/\i=.int .i64 (k+1)/\(∀ (i:Nat) (p q:Pt),i+1<k+1->l[i]?=some p->l[i+1]?=some q->p.id<q.id)/\∃ y,wr=ext (w.alloc (.cells #[.slice A l.length c] 26)) y) (fun i _=>l.length+2-(intOf i).toNat)
    case atStart=>exact⟨0,by omega,rfl,(by intro i p q h;omega),y,rfl⟩
    case round =>
     clear hk hlt HA
     obtain⟨m,hk,rfl,hall,y2,rfl⟩:=hrel
     have HA:=Lib.hid hall;clear hall
     by_cases hlt:m+1<l.length
     ·obtain⟨p,hp⟩:∃ p,l[m+1]?=some p:=⟨_,List.getElem?_eq_getElem hlt⟩
      obtain⟨b,o,rfl,hb⟩:=hs.at_ (by omega)
      obtain⟨r0,r1,r2⟩:=qmn hs hp
      have HP:=Lib.hid hp;clear hp
      obtain⟨q,hq⟩:∃ q,l[m]?=some q:=⟨_,List.getElem?_eq_getElem (by omega)⟩
      obtain⟨q0,q1,q2⟩:=qmn hs hq
      have HQ:=Lib.hid hq;clear hq
      have hi0:(0:Int)<=(m:Int):=by omega
      have hi1:(m:Int)<(l.length:Int):=by omega
      have hi2:(m:Int)+1<(l.length:Int):=by omega
      by_cases hid:q.id<p.id
      ·have hd:¬ p.id<=q.id:=by omega
       go_wp2
       ((first | refine RegC.wp_region_ext1 (by kernel_rfl) (by kernel_rfl) ?_ | refine RegC.wp_region_ext0 (by kernel_rfl) (by kernel_rfl) ?_);(repeat (any_goals (first | go_big_quiet_step (fail) | (refine RegC.wpQuiet_split rfl rfl (fun hb=>?_) (fun hb=>?_)<;>simp only[hb]))));all_goals (refine wpQuiet_nil ?_;rintro _ ⟨nq,rfl⟩))
       go_wp2
       go_roundw
       case rel =>
        refine⟨m+1,by omega,by go_num,?_,ext_of (by (try simp only[qdi]);repeat (first | exact Bel.refl _ | assumption | refine qdr ?_ _ | refine qds ?_ _ | refine Bel.ext ?_ _ | refine Bel.alloc ?_ _ | refine Bel.drewN ?_ _))⟩
        intro i p' q' hi hp' hq'
        rcases Nat.lt_or_ge (i+1) (m+1) with h | h
        ·exact HA.out i p' q' h hp' hq'
        ·obtain rfl:i=m:=by omega
         rw[HQ.out]at hp'
         rw[HP.out]at hq'
         obtain rfl:=Option.some.inj hp'
         obtain rfl:=Option.some.inj hq'
         exact hid
       case measure=>(first | (simp[intOf];done) | (simp[intOf];omega))
      ·have hd:p.id<=q.id:=by omega
       have hbad:incB l=false:=by
        rw[← Bool.not_eq_true,qmo];intro h;exact hid (h m q p HQ.out HP.out)
       have HB:=Lib.hid (E2.out HC.out hbad);clear hbad
       go_wp2
       ((first | refine RegC.wp_region_ext1 (by kernel_rfl) (by kernel_rfl) ?_ | refine RegC.wp_region_ext0 (by kernel_rfl) (by kernel_rfl) ?_);(repeat (any_goals (first | go_big_quiet_step (fail) | (refine RegC.wpQuiet_split rfl rfl (fun hb=>?_) (fun hb=>?_)<;>simp only[hb]))));all_goals (refine wpQuiet_nil ?_;rintro _ ⟨nq,rfl⟩))
       go_wp2
       (go_ret;exact⟨qpv (by exact HB.out.symm),ext_of (by (try simp only[qdi]);repeat (first | exact Bel.refl _ | assumption | refine qdr ?_ _ | refine qds ?_ _ | refine Bel.ext ?_ _ | refine Bel.alloc ?_ _ | refine Bel.drewN ?_ _))⟩)
     ·have hlt2:¬ (m:Int)+1<(l.length:Int):=by omega
      have hinc:incB l=true:=(qmo l).2 fun i p q hp hq=>HA.out i p q (by have:=(List.getElem?_eq_some_iff.1 hq).1;omega) hp hq
      have HB:=Lib.hid (E3.out HC.out hinc);clear hinc
      go_wp2
      (go_ret;exact⟨qpv (by exact HB.out.symm),ext_of (by (try simp only[qdi]);repeat (first | exact Bel.refl _ | assumption | refine qdr ?_ _ | refine qds ?_ _ | refine Bel.ext ?_ _ | refine Bel.alloc ?_ _ | refine Bel.drewN ?_ _))⟩)
set_option maxRecDepth 10000 in
set_option maxHeartbeats 2000000 in
theorem qs0 (A:Option Addr) (c:Nat) (l:List Pt) (id:Int) (w:World) (hs:Sl w 3 A l.length c (vp l)) (hl:l.length<=1000000) :
  Calls Tryz.prog 100 #[.agg #[.slice A l.length c],.int .i64 id] w fun e w'=>e=.returned (.int .i64 (atI l id))/\∃ x,w'=ext w x:=by
 go_enter Tryz.func100,Tryz.ntmps100
 go_wp2
 go_loopw [5] (fun i wr=>∃ (k:Nat),k<=l.length/\i=.int .i64 k/\(∀ (i:Nat) (p:Pt),i<k->l[i]?=some p->p.id≠id)/\∃ y,wr=ext (w.alloc (.cells #[.slice A l.length c] 26)) y) (fun i _=>l.length-(intOf i).toNat)
 case atStart=>exact⟨0,Nat.zero_le _,rfl,(by intro i p h;omega),ext_of (Bel.refl _)⟩
 case round =>
  obtain⟨k,hk,rfl,hall,y,rfl⟩:=hrel
  have HA:=Lib.hid hall;clear hall
  by_cases hlt:k<l.length
  ·obtain⟨p,hp⟩:∃ p,l[k]?=some p:=⟨_,List.getElem?_eq_getElem hlt⟩
   obtain⟨b,o,rfl,hb⟩:=hs.at_ (by omega)
   obtain⟨r0,r1,r2⟩:=qmn hs hp
   have HP:=Lib.hid hp;clear hp
   by_cases hid:p.id=id
   ·have hd:(p.id==id)=true:=by simpa using hid
    have HB:=Lib.hid (qn5 HA.out HP.out hid)
    clear hid
    go_wp2
    (go_ret;exact⟨qpv (by exact HB.out.symm),ext_of (by (try simp only[qdi]);repeat (first | exact Bel.refl _ | assumption | refine qdr ?_ _ | refine qds ?_ _ | refine Bel.ext ?_ _ | refine Bel.alloc ?_ _ | refine Bel.drewN ?_ _))⟩)
   ·have hd:(p.id==id)=false:=by simpa using hid
    have HD:=Lib.hid hid;clear hid
    go_wp2
    go_roundw
    case rel =>
     refine⟨k+1,by omega,by go_num,?_,ext_of (by (try simp only[qdi]);repeat (first | exact Bel.refl _ | assumption | refine qdr ?_ _ | refine qds ?_ _ | refine Bel.ext ?_ _ | refine Bel.alloc ?_ _ | refine Bel.drewN ?_ _))⟩
     intro i q hi hq
     rcases Nat.lt_or_ge i k with h | h
     ·exact HA.out i q h hq
     ·obtain rfl:i=k:=by omega
      rw[HP.out]at hq
      obtain rfl:=Option.some.inj hq
      exact HD.out
    case measure=>(first | (simp[intOf];done) | (simp[intOf];omega))
  ·obtain rfl:k=l.length:=by omega
   have HB:=Lib.hid (qn4 (qn6 (id:=id) fun i p hp=>HA.out i p (List.getElem?_eq_some_iff.1 hp).1 hp))
   go_wp2
   (go_ret;exact⟨qpv (by exact HB.out.symm),ext_of (by (try simp only[qdi]);repeat (first | exact Bel.refl _ | assumption | refine qdr ?_ _ | refine qds ?_ _ | refine Bel.ext ?_ _ | refine Bel.alloc ?_ _ | refine Bel.drewN ?_ _))⟩)
set_option maxRecDepth 10000 in
set_option maxHeartbeats 2000000 in
theorem qs1 (A B:Option Addr) (c d:Nat) (l m:List Pt) (w:World) (hs:Sl w 3 A l.length c (vp l)) (ht:Sl w 3 B m.length d (vp m)) (hl:l.length<=1000000) (hm:m.length<=1000000) :
  Calls Tryz.prog 24 #[.agg #[.slice A l.length c],.agg #[.slice B m.length d]] w fun e w'=>e=.returned (.bool (decide (l=m)))/\∃ x,w'=ext w x:=by
 by_cases hn:l.length=m.length
 ·have z0:((l.length:Int)==(m.length:Int))=true:=by rw[beq_iff_eq];omega
  have HN:=Lib.hid hn
  have hle1:l.length<=m.length:=by omega
  have hle2:m.length<=l.length:=by omega
  clear hn
  go_enter Tryz.func24,Tryz.ntmps24
  go_wp2
  go_loopw [5] (fun i wr=>∃ (k:Nat),k<=l.length/\i=.int .i64 k/\l.take k=m.take k/\∃ y,wr=ext ((w.alloc (.cells #[.slice A l.length c] 26)).alloc (.cells #[.slice B m.length d] 26)) y) (fun i _=>l.length-(intOf i).toNat)
  case atStart=>exact⟨0,Nat.zero_le _,rfl,rfl,ext_of (Bel.refl _)⟩
  case round =>
   obtain⟨k,hk,rfl,hgo,y,rfl⟩:=hrel
   have HG:=Lib.hid hgo;clear hgo
   by_cases hlt:k<l.length
   ·obtain⟨x,hx⟩:∃ x,l[k]?=some x:=⟨_,List.getElem?_eq_getElem hlt⟩
    obtain⟨x',hx'⟩:∃ x,m[k]?=some x:=⟨_,List.getElem?_eq_getElem (by omega)⟩
    obtain⟨b,o,rfl,hb⟩:=hs.at_ (by omega)
    obtain⟨b2,o2,rfl,hb2⟩:=ht.at_ (by omega)
    obtain⟨r0,r1,r2⟩:=qmn hs hx
    obtain⟨q0,q1,q2⟩:=qmn ht hx'
    have HX:=Lib.hid hx
    have HX':=Lib.hid hx'
    have hlt2:k<m.length:=by omega
    clear hx hx'
    have hE:l.take (k+1)=l.take k ++ [x]:=by rw[List.take_add_one,HX.out];rfl
    have hE':m.take (k+1)=m.take k ++ [x']:=by rw[List.take_add_one,HX'.out];rfl
    have HE:=Lib.hid hE
    have HE':=Lib.hid hE'
    clear hE hE'
    by_cases hxy:x=x'
    ·subst hxy
     have heq:=qrw x
     go_wp2
     ((first | refine RegC.wp_region_ext1 (by kernel_rfl) (by kernel_rfl) ?_ | refine RegC.wp_region_ext0 (by kernel_rfl) (by kernel_rfl) ?_);(repeat (any_goals (first | go_big_quiet_step (fail) | (refine RegC.wpQuiet_split rfl rfl (fun hb=>?_) (fun hb=>?_)<;>simp only[hb]))));all_goals (refine wpQuiet_nil ?_;rintro _ ⟨nq,rfl⟩))
     go_wp2
     go_roundw
     case rel =>
      refine⟨k+1,by omega,by go_num,?_,ext_of (by (try simp only[qdi]);repeat (first | exact Bel.refl _ | assumption | refine qdr ?_ _ | refine qds ?_ _ | refine Bel.ext ?_ _ | refine Bel.alloc ?_ _ | refine Bel.drewN ?_ _))⟩
      rw[HE.out,HE'.out,HG.out]
     case measure=>(first | (simp[intOf];done) | (simp[intOf];omega))
    ·have heq:=qrx hxy
     have z1:decide (l=m)=false:=by rw[decide_eq_false_iff_not];intro h;apply hxy;have h1:=HX.out;rw[h,HX'.out]at h1;exact (Option.some.inj h1).symm
     have Z1:=Lib.hid z1
     clear z1 hxy
     go_wp2
     ((first | refine RegC.wp_region_ext1 (by kernel_rfl) (by kernel_rfl) ?_ | refine RegC.wp_region_ext0 (by kernel_rfl) (by kernel_rfl) ?_);(repeat (any_goals (first | go_big_quiet_step (fail) | (refine RegC.wpQuiet_split rfl rfl (fun hb=>?_) (fun hb=>?_)<;>simp only[hb]))));all_goals (refine wpQuiet_nil ?_;rintro _ ⟨nq,rfl⟩))
     go_wp2
     (go_ret;exact⟨qpw (by exact Z1.out.symm),ext_of (by (try simp only[qdi]);repeat (first | exact Bel.refl _ | assumption | refine qdr ?_ _ | refine qds ?_ _ | refine Bel.ext ?_ _ | refine Bel.alloc ?_ _ | refine Bel.drewN ?_ _))⟩)
   ·go_wp2
    have z1:decide (l=m)=true:=by
     rw[decide_eq_true_eq]
     have h:=HG.out
     obtain rfl:k=l.length:=by omega
     rw[List.take_length]at h
     rw[h,HN.out,List.take_length]
    have Z1:=Lib.hid z1
    clear z1
    (go_ret;exact⟨qpw (by exact Z1.out.symm),ext_of (by (try simp only[qdi]);repeat (first | exact Bel.refl _ | assumption | refine qdr ?_ _ | refine qds ?_ _ | refine Bel.ext ?_ _ | refine Bel.alloc ?_ _ | refine Bel.drewN ?_ _))⟩)
 ·go_enter Tryz.func24,Tryz.ntmps24
  have z0:((l.length:Int)==(m.length:Int))=false:=by rw[beq_eq_false_iff_ne];omega
  have z1:decide (l=m)=false:=by rw[decide_eq_false_iff_not];intro h;exact hn (by rw[h])
  have Z1:=Lib.hid z1
  clear z1
  go_wp2
  (go_ret;exact⟨qpw (by exact Z1.out.symm),ext_of (by (try simp only[qdi]);repeat (first | exact Bel.refl _ | assumption | refine qdr ?_ _ | refine qds ?_ _ | refine Bel.ext ?_ _ | refine Bel.alloc ?_ _ | refine Bel.drewN ?_ _))⟩)
end Go.Proofs.YtfjjdnaggblaaaaGreat
namespace Go.Pel
def cmpQ (n1 d1 n2 d2:Int):Int:=cmpZ (n1*d2) (n2*d1)
end Go.Pel
namespace Go.Proofs.YtfjjdnaggblaaaaGreat
open Go Go.Tx Go.RowKit Go.Pel
def u64B (x:Int):Bool:=decide (0<=x/\x<=18446744073709551615)
theorem qs2 {x:Int} (h:u64B x=true):0<=x/\x<=18446744073709551615:=of_decide_eq_true h
theorem qs3 {η:Emb} {a:Int} {v:Value} (hv:VR η (.int .u64 a) v):v=.int .u64 a:=by cases hv;rfl
theorem qs4 (a b:Int) (w:World) (ha:0<=a/\a<=18446744073709551615) (hb:0<=b/\b<=18446744073709551615) :
 Calls Tryz.prog 175 #[.int .u64 a,.int .u64 b] w fun e w'=>e=.returned (.tuple #[.int .u64 ((a*b)/18446744073709551616),.int .u64 ((a*b)%18446744073709551616)])/\∃ x,w'=ext w x:=by
 obtain⟨x,rfl⟩:∃ x:Nat,a=x:=⟨a.toNat,by omega⟩
 obtain⟨y,rfl⟩:∃ y:Nat,b=y:=⟨b.toNat,by omega⟩
 have h:=Tryz.bits_Mul64 x y (by omega) (by omega) w
 refine h.mono fun e w' ⟨he,hw⟩=>⟨he.trans ?_,ext_of (hw▸Bel.refl _)⟩
 simp
theorem qs5 {P Q:Int} (h:cmpZ P 0≠cmpZ Q 0):cmpZ P Q=if cmpZ P 0<cmpZ Q 0 then -1 else 1:=by
 unfold cmpZ at *
 repeat' split at h
 all_goals repeat' split
 all_goals omega
theorem qs6 {P Q:Int} (h:cmpZ P 0=cmpZ Q 0) (hn:cmpZ P 0<0):cmpZ P Q=cmpZ (Q.natAbs:Int) (P.natAbs:Int):=by
 unfold cmpZ at *
 repeat' split at h
 all_goals repeat' split
 all_goals omega
theorem qs7 {P Q:Int} (h:cmpZ P 0=cmpZ Q 0) (hn:¬ cmpZ P 0<0):cmpZ P Q=cmpZ (P.natAbs:Int) (Q.natAbs:Int):=by
 unfold cmpZ at *
 repeat' split at h
 all_goals repeat' split
 all_goals omega
end Go.Proofs.YtfjjdnaggblaaaaGreat
namespace Go.Proofs.YtfjjdnaggblaaaaGreat
open Go Go.Tx Go.Pel Go.Proofs.Tryz
set_option maxRecDepth 100000
set_option maxHeartbeats 0
def qs9 (p q:Pt) (n d:Int):Bool:=decide (-1048576<=p.a/\p.a<=1048576)&&decide (-1048576<=p.b/\p.b<=1048576)&&decide (-1048576<=q.a/\q.a<=1048576)&&decide (-1048576<=q.b/\q.b<=1048576)&&decide (-9223372036854775807<=n/\n<=9223372036854775807)&&decide (1<=d/\d<=9223372036854775807)
theorem qsa {p q:Pt} {n d:Int} (h:qs9 p q n d=true):CmpIn p q n d:=by
 unfold qs9 at h
 simp only[Bool.and_eq_true,decide_eq_true_eq]at h
 exact⟨h.1.1.1.1.1,h.1.1.1.1.2,h.1.1.1.2,h.1.1.2,h.1.2,h.2⟩
abbrev qsc:List Pk:=[.row Ru false,.row Ru false]
abbrev qsd:Type:=Du×Du×Unit
abbrev qse:Type:=Int×Int
def qsf (r:qse):LV×List Ob:=(.tup [.int .u64 r.1,.int .u64 r.2],[])
def qsg (F:qsd->Option qse):Go.Tx.Spec:=⟨175,qsc,qse,F,qsf⟩
def qsh (x:qsd):Bool:=u64B x.1.1&&u64B x.2.1.1
def qsi (d:Nat) (x:qsd):Option qse:=bif qsh x then some ((x.1.1*x.2.1.1)/18446744073709551616,(x.1.1*x.2.1.1)%18446744073709551616) else none
theorem qsj (d:Nat) (x:qsd) (h:qsh x=true):qsi d x=some ((x.1.1*x.2.1.1)/18446744073709551616,(x.1.1*x.2.1.1)%18446744073709551616):=by unfold qsi;rw[h];rfl
theorem qsk (d:Nat):COK prog (qsg (qsi d)):=by
 refine qo6 (qo7 (fn:=f175) (by kernel_rfl) (by kernel_rfl) (by kernel_rfl)) fun x r hx w φ vs hφ hv=>?_
 have hx:qsi d x=some r:=hx
 unfold qsi at hx
 obtain⟨hc,rfl⟩:=qpm hx
 have hv:VRs (Emb.fro φ) [.int .u64 x.1.1,.int .u64 x.2.1.1] vs:=hv
 obtain⟨v0,vs,rfl,q0,hv⟩:=VRs.uncons hv
 obtain⟨v1,rfl,q1⟩:=vrs1 hv
 have r0:=qs3 q0;subst r0
 have r1:=qs3 q1;subst r1
 unfold qsh at hc
 simp only[Bool.and_eq_true]at hc
 obtain⟨h1,h2⟩:=hc
 refine (qs4 x.1.1 x.2.1.1 w (qs2 h1) (qs2 h2)).mono ?_
 rintro e w' ⟨rfl,y,rfl⟩
 exact qo4 hφ (VR.tupL (VRs.cons (.int _ _) (VRs.cons (.int _ _) VRs.nil))) y
abbrev qsl:List Pk:=[.row Ri false,.row Ri false]
abbrev qsm:Type:=Di×Di×Unit
abbrev qsn:Type:=Bool×Int×Int
def qso (r:qsn):LV×List Ob:=(.agg [.bool r.1,.int .u64 r.2.1,.int .u64 r.2.2],[])
def qsp (F:qsm->Option qsn):Go.Tx.Spec:=⟨21,qsl,qsn,F,qso⟩
def qsq (x:qsm):Bool:=i64B x.1.1&&i64B x.2.1.1
def qsr (d:Nat) (x:qsm):Option qsn:=bif qsq x then some (decide (x.1.1*x.2.1.1<0),(((x.1.1*x.2.1.1).natAbs/18446744073709551616:Nat):Int),(((x.1.1*x.2.1.1).natAbs%18446744073709551616:Nat):Int)) else none
theorem qss (d:Nat) (x:qsm) (h:qsq x=true):qsr d x=some (decide (x.1.1*x.2.1.1<0),(((x.1.1*x.2.1.1).natAbs/18446744073709551616:Nat):Int),(((x.1.1*x.2.1.1).natAbs%18446744073709551616:Nat):Int)):=by unfold qsr;rw[h];rfl
theorem qst (d:Nat):COK prog (qsp (qsr d)):=by
 refine qo6 (qo7 (fn:=f21) (by kernel_rfl) (by kernel_rfl) (by kernel_rfl)) fun x r hx w φ vs hφ hv=>?_
 have hx:qsr d x=some r:=hx
 unfold qsr at hx
 obtain⟨hc,rfl⟩:=qpm hx
 have hv:VRs (Emb.fro φ) [.int .i64 x.1.1,.int .i64 x.2.1.1] vs:=hv
 obtain⟨v0,vs,rfl,q0,hv⟩:=VRs.uncons hv
 obtain⟨v1,rfl,q1⟩:=vrs1 hv
 have r0:=qo1 q0;subst r0
 have r1:=qo1 q1;subst r1
 unfold qsq at hc
 simp only[Bool.and_eq_true]at hc
 obtain⟨h1,h2⟩:=hc
 refine (qro x.1.1 x.2.1.1 w (qpj h1) (qpj h2)).mono ?_
 rintro e w' ⟨rfl,y,rfl⟩
 exact qo4 hφ (VR.aggL (VRs.cons (.bool _) (VRs.cons (.int _ _) (VRs.cons (.int _ _) VRs.nil)))) y
abbrev qsu:List Pk:=[.row Rii true]
abbrev qsv:Type:=Dii×Unit
abbrev qsw:Type:=Int
def qsx (r:qsw):LV×List Ob:=(.int .i64 r,[])
def qsy (F:qsv->Option qsw):Go.Tx.Spec:=⟨27,qsu,qsw,F,qsx⟩
def qsz (x:qsv):Bool:=i64B x.1.1&&i64B x.1.2.1
def qt0 (d:Nat) (x:qsv):Option qsw:=bif qsz x then some (qjo x.1.1 x.1.2.1) else none
theorem qt1 (d:Nat) (x:qsv) (h:qsz x=true):qt0 d x=some (qjo x.1.1 x.1.2.1):=by unfold qt0;rw[h];rfl
theorem qt2 (d:Nat):COK prog (qsy (qt0 d)):=by
 refine qo6 (qo7 (fn:=f27) (by kernel_rfl) (by kernel_rfl) (by kernel_rfl)) fun x r hx w φ vs hφ hv=>?_
 have hx:qt0 d x=some r:=hx
 unfold qt0 at hx
 obtain⟨hc,rfl⟩:=qpm hx
 have hv:VRs (Emb.fro φ) [.agg [.int .i64 x.1.1,.int .i64 x.1.2.1]] vs:=hv
 obtain⟨v0,rfl,q0⟩:=vrs1 hv
 have r0:=qo0 q0;subst r0
 unfold qsz at hc
 simp only[Bool.and_eq_true]at hc
 obtain⟨h1,h2⟩:=hc
 refine (qq1 x.1.1 x.1.2.1 w (qpj h1) (qpj h2)).mono ?_
 rintro e w' ⟨rfl,y,rfl⟩
 exact qo4 hφ (.int _ _) y
abbrev qt3:List Pk:=[.row Rii true]
abbrev qt4:Type:=Dii×Unit
abbrev qt5:Type:=Int
def qt6 (r:qt5):LV×List Ob:=(.int .i64 r,[])
def qt7 (F:qt4->Option qt5):Go.Tx.Spec:=⟨17,qt3,qt5,F,qt6⟩
def qt8 (x:qt4):Bool:=i64B x.1.1&&i64B x.1.2.1
def qt9 (d:Nat) (x:qt4):Option qt5:=bif qt8 x then some (qjo x.1.1 x.1.2.1) else none
theorem qta (d:Nat) (x:qt4) (h:qt8 x=true):qt9 d x=some (qjo x.1.1 x.1.2.1):=by unfold qt9;rw[h];rfl
theorem qtb (d:Nat):COK prog (qt7 (qt9 d)):=by
 refine qo6 (qo7 (fn:=f17) (by kernel_rfl) (by kernel_rfl) (by kernel_rfl)) fun x r hx w φ vs hφ hv=>?_
 have hx:qt9 d x=some r:=hx
 unfold qt9 at hx
 obtain⟨hc,rfl⟩:=qpm hx
 have hv:VRs (Emb.fro φ) [.agg [.int .i64 x.1.1,.int .i64 x.1.2.1]] vs:=hv
 obtain⟨v0,rfl,q0⟩:=vrs1 hv
 have r0:=qo0 q0;subst r0
 unfold qt8 at hc
 simp only[Bool.and_eq_true]at hc
 obtain⟨h1,h2⟩:=hc
 refine (qq3 x.1.1 x.1.2.1 w (qpj h1) (qpj h2)).mono ?_
 rintro e w' ⟨rfl,y,rfl⟩
 exact qo4 hφ (.int _ _) y
abbrev qtc:List Pk:=[.row Ri false,.row Ri false]
abbrev qtd:Type:=Di×Di×Unit
abbrev qte:Type:=Int×Int×Int
def qtf (r:qte):LV×List Ob:=(.tup [.agg [.int .i64 r.1,.int .i64 r.2.1],.int .i64 r.2.2],[])
def qtg (F:qtd->Option qte):Go.Tx.Spec:=⟨197,qtc,qte,F,qtf⟩
def qth (x:qtd):Bool:=i64B x.1.1&&i64B x.2.1.1
def qti (d:Nat) (x:qtd):Option qte:=bif qth x then some ((mk x.1.1 x.2.1.1).1,(mk x.1.1 x.2.1.1).2.1,(mk x.1.1 x.2.1.1).2.2) else none
theorem qtj (d:Nat) (x:qtd) (h:qth x=true):qti d x=some ((mk x.1.1 x.2.1.1).1,(mk x.1.1 x.2.1.1).2.1,(mk x.1.1 x.2.1.1).2.2):=by unfold qti;rw[h];rfl
theorem qtk (d:Nat):COK prog (qtg (qti d)):=by
 refine qo6 (qo7 (fn:=f197) (by kernel_rfl) (by kernel_rfl) (by kernel_rfl)) fun x r hx w φ vs hφ hv=>?_
 have hx:qti d x=some r:=hx
 unfold qti at hx
 obtain⟨hc,rfl⟩:=qpm hx
 have hv:VRs (Emb.fro φ) [.int .i64 x.1.1,.int .i64 x.2.1.1] vs:=hv
 obtain⟨v0,vs,rfl,q0,hv⟩:=VRs.uncons hv
 obtain⟨v1,rfl,q1⟩:=vrs1 hv
 have r0:=qo1 q0;subst r0
 have r1:=qo1 q1;subst r1
 unfold qth at hc
 simp only[Bool.and_eq_true]at hc
 obtain⟨h1,h2⟩:=hc
 refine (qqb x.1.1 x.2.1.1 w (qpj h1) (qpj h2)).mono ?_
 rintro e w' ⟨rfl,y,rfl⟩
 exact qo4 hφ (VR.tupL (VRs.cons (VR.aggL (VRs.cons (.int _ _) (VRs.cons (.int _ _) VRs.nil))) (VRs.cons (.int _ _) VRs.nil))) y
abbrev qtl:List Pk:=[.row Ri false,.row Ri false]
abbrev qtm:Type:=Di×Di×Unit
abbrev qtn:Type:=Int×Int×Int
def qto (r:qtn):LV×List Ob:=(.tup [.agg [.int .i64 r.1,.int .i64 r.2.1],.int .i64 r.2.2],[])
def qtp (F:qtm->Option qtn):Go.Tx.Spec:=⟨200,qtl,qtn,F,qto⟩
def qtq (x:qtm):Bool:=i64B x.1.1&&i64B x.2.1.1
def qtr (d:Nat) (x:qtm):Option qtn:=bif qtq x then some ((mk x.1.1 x.2.1.1).1,(mk x.1.1 x.2.1.1).2.1,(mk x.1.1 x.2.1.1).2.2) else none
theorem qts (d:Nat) (x:qtm) (h:qtq x=true):qtr d x=some ((mk x.1.1 x.2.1.1).1,(mk x.1.1 x.2.1.1).2.1,(mk x.1.1 x.2.1.1).2.2):=by unfold qtr;rw[h];rfl
theorem qtt (d:Nat):COK prog (qtp (qtr d)):=by
 refine qo6 (qo7 (fn:=f200) (by kernel_rfl) (by kernel_rfl) (by kernel_rfl)) fun x r hx w φ vs hφ hv=>?_
 have hx:qtr d x=some r:=hx
 unfold qtr at hx
 obtain⟨hc,rfl⟩:=qpm hx
 have hv:VRs (Emb.fro φ) [.int .i64 x.1.1,.int .i64 x.2.1.1] vs:=hv
 obtain⟨v0,vs,rfl,q0,hv⟩:=VRs.uncons hv
 obtain⟨v1,rfl,q1⟩:=vrs1 hv
 have r0:=qo1 q0;subst r0
 have r1:=qo1 q1;subst r1
 unfold qtq at hc
 simp only[Bool.and_eq_true]at hc
 obtain⟨h1,h2⟩:=hc
 refine (qqc x.1.1 x.2.1.1 w (qpj h1) (qpj h2)).mono ?_
 rintro e w' ⟨rfl,y,rfl⟩
 exact qo4 hφ (VR.tupL (VRs.cons (VR.aggL (VRs.cons (.int _ _) (VRs.cons (.int _ _) VRs.nil))) (VRs.cons (.int _ _) VRs.nil))) y
abbrev qtu:List Pk:=[.row Riii true]
abbrev qtv:Type:=Diii×Unit
abbrev qtw:Type:=Int
def qtx (r:qtw):LV×List Ob:=(.int .i64 r,[])
def qty (F:qtv->Option qtw):Go.Tx.Spec:=⟨75,qtu,qtw,F,qtx⟩
def qtz (x:qtv):Bool:=true
def qu0 (d:Nat) (x:qtv):Option qtw:=bif qtz x then some (qk2 (ofP x.1).id (ofP x.1).a (ofP x.1).b) else none
theorem qu1 (d:Nat) (x:qtv) (h:qtz x=true):qu0 d x=some (qk2 (ofP x.1).id (ofP x.1).a (ofP x.1).b):=by unfold qu0;rw[h];rfl
theorem qu2 (d:Nat):COK prog (qty (qu0 d)):=by
 refine qo6 (qo7 (fn:=f75) (by kernel_rfl) (by kernel_rfl) (by kernel_rfl)) fun x r hx w φ vs hφ hv=>?_
 have hx:qu0 d x=some r:=hx
 unfold qu0 at hx
 obtain⟨hc,rfl⟩:=qpm hx
 have hv:VRs (Emb.fro φ) [.agg [.int .i64 x.1.1,.int .i64 x.1.2.1,.int .i64 x.1.2.2.1]] vs:=hv
 obtain⟨v0,rfl,q0⟩:=vrs1 hv
 have r0:=qnz (p:=x.1) q0;subst r0
 refine (qq6 (ofP x.1).id (ofP x.1).a (ofP x.1).b w).mono ?_
 rintro e w' ⟨rfl,y,rfl⟩
 exact qo4 hφ (.int _ _) y
abbrev quc:List Pk:=[.row Riii true,.row Riii true,.row Rii true]
abbrev qud:Type:=Diii×Diii×Dii×Unit
abbrev que:Type:=Bool
def quf (r:que):LV×List Ob:=(.bool r,[])
def qug (F:qud->Option que):Go.Tx.Spec:=⟨155,quc,que,F,quf⟩
def quh (x:qud):Bool:=qs9 (ofP x.1) (ofP x.2.1) x.2.2.1.1 x.2.2.1.2.1
def qui (d:Nat) (x:qud):Option que:=bif quh x then some (leads (ofP x.1) (ofP x.2.1) x.2.2.1.1 x.2.2.1.2.1) else none
theorem quj (d:Nat) (x:qud) (h:quh x=true):qui d x=some (leads (ofP x.1) (ofP x.2.1) x.2.2.1.1 x.2.2.1.2.1):=by unfold qui;rw[h];rfl
theorem quk (d:Nat):COK prog (qug (qui d)):=by
 refine qo6 (qo7 (fn:=f155) (by kernel_rfl) (by kernel_rfl) (by kernel_rfl)) fun x r hx w φ vs hφ hv=>?_
 have hx:qui d x=some r:=hx
 unfold qui at hx
 obtain⟨hc,rfl⟩:=qpm hx
 have hv:VRs (Emb.fro φ) [.agg [.int .i64 x.1.1,.int .i64 x.1.2.1,.int .i64 x.1.2.2.1],.agg [.int .i64 x.2.1.1,.int .i64 x.2.1.2.1,.int .i64 x.2.1.2.2.1],.agg [.int .i64 x.2.2.1.1,.int .i64 x.2.2.1.2.1]] vs:=hv
 obtain⟨v0,vs,rfl,q0,hv⟩:=VRs.uncons hv
 obtain⟨v1,vs,rfl,q1,hv⟩:=VRs.uncons hv
 obtain⟨v2,rfl,q2⟩:=vrs1 hv
 have r0:=qnz (p:=x.1) q0;subst r0
 have r1:=qnz (p:=x.2.1) q1;subst r1
 have r2:=qo0 q2;subst r2
 unfold quh at hc
 have h1:=hc
 refine (qru (ofP x.1) (ofP x.2.1) x.2.2.1.1 x.2.2.1.2.1 w (qsa h1)).mono ?_
 rintro e w' ⟨rfl,y,rfl⟩
 exact qo4 hφ (.bool _) y
abbrev qul:List Pk:=[.row Riii true,.row Riii true,.row Rii true]
abbrev qum:Type:=Diii×Diii×Dii×Unit
abbrev qun:Type:=Int
def qup (r:qun):LV×List Ob:=(.int .i64 r,[])
def quq (F:qum->Option qun):Go.Tx.Spec:=⟨143,qul,qun,F,qup⟩
def qur (x:qum):Bool:=i64B x.2.2.1.1&&i64B x.2.2.1.2.1
def qus (d:Nat) (x:qum):Option qun:=bif qur x then some (qqu (ofP x.1) (ofP x.2.1) x.2.2.1.1 x.2.2.1.2.1) else none
theorem qut (d:Nat) (x:qum) (h:qur x=true):qus d x=some (qqu (ofP x.1) (ofP x.2.1) x.2.2.1.1 x.2.2.1.2.1):=by unfold qus;rw[h];rfl
theorem quu (d:Nat):COK prog (quq (qus d)):=by
 refine qo6 (qo7 (fn:=f143) (by kernel_rfl) (by kernel_rfl) (by kernel_rfl)) fun x r hx w φ vs hφ hv=>?_
 have hx:qus d x=some r:=hx
 unfold qus at hx
 obtain⟨hc,rfl⟩:=qpm hx
 have hv:VRs (Emb.fro φ) [.agg [.int .i64 x.1.1,.int .i64 x.1.2.1,.int .i64 x.1.2.2.1],.agg [.int .i64 x.2.1.1,.int .i64 x.2.1.2.1,.int .i64 x.2.1.2.2.1],.agg [.int .i64 x.2.2.1.1,.int .i64 x.2.2.1.2.1]] vs:=hv
 obtain⟨v0,vs,rfl,q0,hv⟩:=VRs.uncons hv
 obtain⟨v1,vs,rfl,q1,hv⟩:=VRs.uncons hv
 obtain⟨v2,rfl,q2⟩:=vrs1 hv
 have r0:=qnz (p:=x.1) q0;subst r0
 have r1:=qnz (p:=x.2.1) q1;subst r1
 have r2:=qo0 q2;subst r2
 unfold qur at hc
 simp only[Bool.and_eq_true]at hc
 obtain⟨h1,h2⟩:=hc
 refine (qrk (ofP x.1) (ofP x.2.1) x.2.2.1.1 x.2.2.1.2.1 w (qpj h1) (qpj h2)).mono ?_
 rintro e w' ⟨rfl,y,rfl⟩
 exact qo4 hφ (.int _ _) y
abbrev quv:List Pk:=[.row Riii true,.row Riii true,.row Rii true]
abbrev quw:Type:=Diii×Diii×Dii×Unit
abbrev qux:Type:=Bool×Int
def quy (r:qux):LV×List Ob:=(.tup [.bool r.1,.int .i64 r.2],[])
def quz (F:quw->Option qux):Go.Tx.Spec:=⟨74,quv,qux,F,quy⟩
def qv0 (x:quw):Bool:=i64B x.2.2.1.1&&i64B x.2.2.1.2.1
def qv1 (d:Nat) (x:quw):Option qux:=bif qv0 x then some ((qqz (ofP x.1) (ofP x.2.1) x.2.2.1.1 x.2.2.1.2.1).1,(qqz (ofP x.1) (ofP x.2.1) x.2.2.1.1 x.2.2.1.2.1).2) else none
theorem qv2 (d:Nat) (x:quw) (h:qv0 x=true):qv1 d x=some ((qqz (ofP x.1) (ofP x.2.1) x.2.2.1.1 x.2.2.1.2.1).1,(qqz (ofP x.1) (ofP x.2.1) x.2.2.1.1 x.2.2.1.2.1).2):=by unfold qv1;rw[h];rfl
theorem qv3 (d:Nat):COK prog (quz (qv1 d)):=by
 refine qo6 (qo7 (fn:=f74) (by kernel_rfl) (by kernel_rfl) (by kernel_rfl)) fun x r hx w φ vs hφ hv=>?_
 have hx:qv1 d x=some r:=hx
 unfold qv1 at hx
 obtain⟨hc,rfl⟩:=qpm hx
 have hv:VRs (Emb.fro φ) [.agg [.int .i64 x.1.1,.int .i64 x.1.2.1,.int .i64 x.1.2.2.1],.agg [.int .i64 x.2.1.1,.int .i64 x.2.1.2.1,.int .i64 x.2.1.2.2.1],.agg [.int .i64 x.2.2.1.1,.int .i64 x.2.2.1.2.1]] vs:=hv
 obtain⟨v0,vs,rfl,q0,hv⟩:=VRs.uncons hv
 obtain⟨v1,vs,rfl,q1,hv⟩:=VRs.uncons hv
 obtain⟨v2,rfl,q2⟩:=vrs1 hv
 have r0:=qnz (p:=x.1) q0;subst r0
 have r1:=qnz (p:=x.2.1) q1;subst r1
 have r2:=qo0 q2;subst r2
 unfold qv0 at hc
 simp only[Bool.and_eq_true]at hc
 obtain⟨h1,h2⟩:=hc
 refine (qrm (ofP x.1) (ofP x.2.1) x.2.2.1.1 x.2.2.1.2.1 w (qpj h1) (qpj h2)).mono ?_
 rintro e w' ⟨rfl,y,rfl⟩
 exact qo4 hφ (VR.tupL (VRs.cons (.bool _) (VRs.cons (.int _ _) VRs.nil))) y
abbrev qv4:List Pk:=[.row qhx true]
abbrev qv5:Type:=qhy×Unit
abbrev qv6:Type:=Int
def qv7 (r:qv6):LV×List Ob:=(.int .i64 r,[])
def qv8 (F:qv5->Option qv6):Go.Tx.Spec:=⟨26,qv4,qv6,F,qv7⟩
def qv9 (x:qv5):Bool:=true
def qva (d:Nat) (x:qv5):Option qv6:=bif qv9 x then some (qmq (ptsL x.1.1)) else none
theorem qvb (d:Nat) (x:qv5) (h:qv9 x=true):qva d x=some (qmq (ptsL x.1.1)):=by unfold qva;rw[h];rfl
theorem qvc (d:Nat):COK prog (qv8 (qva d)):=by
 refine qo6 (qo7 (fn:=f26) (by kernel_rfl) (by kernel_rfl) (by kernel_rfl)) fun x r hx w φ vs hφ hv=>?_
 have hx:qva d x=some r:=hx
 unfold qva at hx
 obtain⟨hc,rfl⟩:=qpm hx
 have hv:VRs (Emb.fro φ) [.agg [.fz RP x.1.1]] vs:=hv
 obtain⟨v0,rfl,q0⟩:=vrs1 hv
 obtain⟨A0,c0,rfl,s0,z0⟩:=qph hφ q0
 refine (qri A0 c0 (ptsL x.1.1) w s0).mono ?_
 rintro e w' ⟨rfl,y,rfl⟩
 exact qo4 hφ (.int _ _) y
abbrev qvd:List Pk:=[.row qhx true]
abbrev qve:Type:=qhy×Unit
abbrev qvf:Type:=Int
def qvg (r:qvf):LV×List Ob:=(.int .i64 r,[])
def qvh (F:qve->Option qvf):Go.Tx.Spec:=⟨16,qvd,qvf,F,qvg⟩
def qvi (x:qve):Bool:=true
def qvj (d:Nat) (x:qve):Option qvf:=bif qvi x then some (qmq (ptsL x.1.1)) else none
theorem qvk (d:Nat) (x:qve) (h:qvi x=true):qvj d x=some (qmq (ptsL x.1.1)):=by unfold qvj;rw[h];rfl
theorem qvl (d:Nat):COK prog (qvh (qvj d)):=by
 refine qo6 (qo7 (fn:=f16) (by kernel_rfl) (by kernel_rfl) (by kernel_rfl)) fun x r hx w φ vs hφ hv=>?_
 have hx:qvj d x=some r:=hx
 unfold qvj at hx
 obtain⟨hc,rfl⟩:=qpm hx
 have hv:VRs (Emb.fro φ) [.agg [.fz RP x.1.1]] vs:=hv
 obtain⟨v0,rfl,q0⟩:=vrs1 hv
 obtain⟨A0,c0,rfl,s0,z0⟩:=qph hφ q0
 refine (qrz A0 c0 (ptsL x.1.1) w s0).mono ?_
 rintro e w' ⟨rfl,y,rfl⟩
 exact qo4 hφ (.int _ _) y
abbrev qvm:List Pk:=[.row qhx true,.row Ri false]
abbrev qvn:Type:=qhy×Di×Unit
abbrev qvo:Type:=Int
def qvp (r:qvo):LV×List Ob:=(.int .i64 r,[])
def qvq (F:qvn->Option qvo):Go.Tx.Spec:=⟨100,qvm,qvo,F,qvp⟩
def qvr (x:qvn):Bool:=decide ((ptsL x.1.1).length<=1000000)
def qvs (d:Nat) (x:qvn):Option qvo:=bif qvr x then some (atI (ptsL x.1.1) x.2.1.1) else none
theorem qvt (d:Nat) (x:qvn) (h:qvr x=true):qvs d x=some (atI (ptsL x.1.1) x.2.1.1):=by unfold qvs;rw[h];rfl
theorem qvu (d:Nat):COK prog (qvq (qvs d)):=by
 refine qo6 (qo7 (fn:=f100) (by kernel_rfl) (by kernel_rfl) (by kernel_rfl)) fun x r hx w φ vs hφ hv=>?_
 have hx:qvs d x=some r:=hx
 unfold qvs at hx
 obtain⟨hc,rfl⟩:=qpm hx
 have hv:VRs (Emb.fro φ) [.agg [.fz RP x.1.1],.int .i64 x.2.1.1] vs:=hv
 obtain⟨v0,vs,rfl,q0,hv⟩:=VRs.uncons hv
 obtain⟨v1,rfl,q1⟩:=vrs1 hv
 obtain⟨A0,c0,rfl,s0,z0⟩:=qph hφ q0
 have r1:=qo1 q1;subst r1
 unfold qvr at hc
 have h1:=hc
 replace h1:=of_decide_eq_true h1
 refine (qs0 A0 c0 (ptsL x.1.1) x.2.1.1 w s0 h1).mono ?_
 rintro e w' ⟨rfl,y,rfl⟩
 exact qo4 hφ (.int _ _) y
abbrev qvv:List Pk:=[.row qhx true,.row qhx true]
abbrev qvw:Type:=qhy×qhy×Unit
abbrev qvx:Type:=Bool
def qvy (r:qvx):LV×List Ob:=(.bool r,[])
def qvz (F:qvw->Option qvx):Go.Tx.Spec:=⟨24,qvv,qvx,F,qvy⟩
def qw0 (x:qvw):Bool:=decide ((ptsL x.1.1).length<=1000000)&&decide ((ptsL x.2.1.1).length<=1000000)
def qw1 (d:Nat) (x:qvw):Option qvx:=bif qw0 x then some (decide ((ptsL x.1.1)=(ptsL x.2.1.1))) else none
theorem qw2 (d:Nat) (x:qvw) (h:qw0 x=true):qw1 d x=some (decide ((ptsL x.1.1)=(ptsL x.2.1.1))):=by unfold qw1;rw[h];rfl
theorem qw3 (d:Nat):COK prog (qvz (qw1 d)):=by
 refine qo6 (qo7 (fn:=f24) (by kernel_rfl) (by kernel_rfl) (by kernel_rfl)) fun x r hx w φ vs hφ hv=>?_
 have hx:qw1 d x=some r:=hx
 unfold qw1 at hx
 obtain⟨hc,rfl⟩:=qpm hx
 have hv:VRs (Emb.fro φ) [.agg [.fz RP x.1.1],.agg [.fz RP x.2.1.1]] vs:=hv
 obtain⟨v0,vs,rfl,q0,hv⟩:=VRs.uncons hv
 obtain⟨v1,rfl,q1⟩:=vrs1 hv
 obtain⟨A0,c0,rfl,s0,z0⟩:=qph hφ q0
 obtain⟨A1,c1,rfl,s1,z1⟩:=qph hφ q1
 unfold qw0 at hc
 simp only[Bool.and_eq_true]at hc
 obtain⟨h1,h2⟩:=hc
 replace h1:=of_decide_eq_true h1
 replace h2:=of_decide_eq_true h2
 refine (qs1 A0 A1 c0 c1 (ptsL x.1.1) (ptsL x.2.1.1) w s0 s1 h1 h2).mono ?_
 rintro e w' ⟨rfl,y,rfl⟩
 exact qo4 hφ (.bool _) y
end Go.Proofs.YtfjjdnaggblaaaaGreat
namespace Go.Proofs.YtfjjdnaggblaaaaGreat
open Go.RowKit Go.Pel
set_option maxHeartbeats 400000 in
theorem qw4 (p:Pt) (id:Int) (w:World):Calls Tryz.prog 170 #[.agg #[.int .i64 p.id,.int .i64 p.a,.int .i64 p.b],.int .i64 id] w fun e w'=>e=.returned (.int .i64 (cmpI p.id id))/\∃ x,w'=ext w x:=by
 go_enter Tryz.func170,Tryz.ntmps170
 go_wp2_with ((go_at_call 88;refine (qr8 _ _ _).mono ?_;rintro e _ ⟨rfl,nx,rfl⟩))
 (go_ret;exact⟨qpv (by rfl),ext_of (by (try simp only[qdi]);repeat (first | exact Bel.refl _ | assumption | refine qdr ?_ _ | refine qds ?_ _ | refine Bel.ext ?_ _ | refine Bel.alloc ?_ _ | refine Bel.drewN ?_ _))⟩)
theorem qw5 (p:Pt) (id v:Int) (h:cmpI p.id id=v) (w:World):Calls Tryz.prog 170 #[.agg #[.int .i64 p.id,.int .i64 p.a,.int .i64 p.b],.int .i64 id] w fun e w'=>e=.returned (.int .i64 v)/\∃ x,w'=ext w x:=h▸qw4 p id w
set_option maxRecDepth 10000 in
set_option maxHeartbeats 2000000 in
theorem qw6 (A:Option Addr) (c:Nat) (l:List Pt) (id:Int) (w:World) (hs:Sl w 3 A l.length c (vp l)) (hl:l.length<=1000000) (hinc:incB l=true) :
  Calls Tryz.prog 86 #[.slice A l.length c,.int .i64 id,.func (.func 170) #[] #[]] w fun e w'=>e=.returned (.tuple #[.int .i64 (lowB l id),.bool (hasB l id)])/\∃ x,w'=ext w x:=by
 have HI:=Lib.hid hinc;clear hinc
 go_enter Tryz.func86,Tryz.ntmps86
 go_wp2
 go_loopw [9,10] (fun i j wr=>∃ (a b:Nat),a<=b/\b<=l.length/\i=.int .i64 a/\j=.int .i64 b/\(∀ (k:Nat) (p:Pt),k<a->l[k]?=some p->p.id<id)/\(∀ (k:Nat) (p:Pt),b<=k->l[k]?=some p->id<=p.id)/\∃ y,wr=ext w y) (fun i j _=>(intOf j-intOf i).toNat)
 case atStart=>exact⟨0,l.length,Nat.zero_le _,Nat.le_refl _,rfl,rfl,(by intro k p h;omega),(by intro k p h hp;have:=(List.getElem?_eq_some_iff.1 hp).1;omega),ext_of (Bel.refl _)⟩
 case round =>
  obtain⟨a,b,hab,hbl,rfl,rfl,h1,h2,y,rfl⟩:=hrel
  have H1:=Lib.hid h1
  have H2:=Lib.hid h2
  clear h1 h2
  by_cases hlt:a<b
  ·obtain⟨m,hm1,hm2⟩:∃ m:Nat,2*m<=a+b/\a+b<=2*m+1:=⟨(a+b)/2,by omega,by omega⟩
   have hmd:((a:Int)+(b:Int))/2=(m:Int):=by omega
   obtain⟨p,hp⟩:∃ p,l[m]?=some p:=⟨_,List.getElem?_eq_getElem (by omega)⟩
   obtain⟨b0,o,rfl,hb0⟩:=hs.at_ (by omega)
   obtain⟨r0,r1,r2⟩:=qmn hs hp
   have HP:=Lib.hid hp;clear hp
   have hml:(m:Int)<(l.length:Int):=by omega
   by_cases hpi:p.id<id
   ·have e1:=Lib.hid (qw5 p id (-1) (qr5 hpi))
    go_wp2_with ((go_at_call 170;refine (e1.out _).mono ?_;rintro e _ ⟨rfl,nx,rfl⟩))
    go_roundw
    case rel =>
     refine⟨m+1,b,by omega,hbl,by go_num,rfl,?_,H2.out,ext_of (by (try simp only[qdi]);repeat (first | exact Bel.refl _ | assumption | refine qdr ?_ _ | refine qds ?_ _ | refine Bel.ext ?_ _ | refine Bel.alloc ?_ _ | refine Bel.drewN ?_ _))⟩
     intro k q hk hq
     rcases Nat.lt_or_ge k m with h | h
     ·have:=qmp HI.out h hq HP.out;omega
     ·obtain rfl:k=m:=by omega
      rw[HP.out]at hq;obtain rfl:=Option.some.inj hq;exact hpi
    case measure=>(first | (simp[intOf];done) | (simp[intOf];omega))
   ·have e1:Hid (∃ v:Int,¬ v<0/\cmpI p.id id=v):=Lib.hid (by
     by_cases h:id<p.id
     ·exact⟨1,by omega,qr6 h⟩
     ·exact⟨0,by omega,qr7 (by omega)⟩)
    obtain⟨v,hv,e2⟩:=e1.out
    have e1:=Lib.hid (qw5 p id v e2)
    clear e2
    go_wp2_with ((go_at_call 170;refine (e1.out _).mono ?_;rintro e _ ⟨rfl,nx,rfl⟩))
    go_roundw
    case rel =>
     refine⟨a,m,by omega,by omega,rfl,rfl,H1.out,?_,ext_of (by (try simp only[qdi]);repeat (first | exact Bel.refl _ | assumption | refine qdr ?_ _ | refine qds ?_ _ | refine Bel.ext ?_ _ | refine Bel.alloc ?_ _ | refine Bel.drewN ?_ _))⟩
     intro k q hk hq
     rcases Nat.lt_or_ge m k with h | h
     ·have:=qmp HI.out h HP.out hq;omega
     ·obtain rfl:k=m:=by omega
      rw[HP.out]at hq;obtain rfl:=Option.some.inj hq;omega
    case measure=>(first | (simp[intOf];done) | (simp[intOf];omega))
  ·obtain rfl:a=b:=by omega
   have HL:=Lib.hid (qn0 hbl H1.out (fun p hp=>H2.out a p (Nat.le_refl _) hp))
   have HH:=Lib.hid (qn3 HI.out id)
   by_cases hal:a<l.length
   ·obtain⟨p,hp⟩:∃ p,l[a]?=some p:=⟨_,List.getElem?_eq_getElem hal⟩
    obtain⟨b0,o,rfl,hb0⟩:=hs.at_ (by omega)
    obtain⟨r0,r1,r2⟩:=qmn hs hp
    have HP:=Lib.hid hp;clear hp
    have hge:=H2.out a p (Nat.le_refl _) HP.out
    have hal2:(a:Int)<(l.length:Int):=by omega
    by_cases hpi:p.id=id
    ·have e1:=Lib.hid (qw5 p id 0 (qr7 hpi))
     have HB:Hid (hasB l id=true):=Lib.hid (by rw[HH.out,HL.out,HP.out];simpa using hpi)
     clear hpi
     go_wp2_with ((go_at_call 170;refine (e1.out _).mono ?_;rintro e _ ⟨rfl,nx,rfl⟩))
     go_ret2
     exact⟨by rw[HL.out,HB.out];rfl,ext_of (by (try simp only[qdi]);repeat (first | exact Bel.refl _ | assumption | refine qdr ?_ _ | refine qds ?_ _ | refine Bel.ext ?_ _ | refine Bel.alloc ?_ _ | refine Bel.drewN ?_ _))⟩
    ·have e1:=Lib.hid (qw5 p id 1 (qr6 (by omega)))
     have HB:Hid (hasB l id=false):=Lib.hid (by rw[HH.out,HL.out,HP.out];simpa using hpi)
     clear hpi
     go_wp2_with ((go_at_call 170;refine (e1.out _).mono ?_;rintro e _ ⟨rfl,nx,rfl⟩))
     go_ret2
     exact⟨by rw[HL.out,HB.out];rfl,ext_of (by (try simp only[qdi]);repeat (first | exact Bel.refl _ | assumption | refine qdr ?_ _ | refine qds ?_ _ | refine Bel.ext ?_ _ | refine Bel.alloc ?_ _ | refine Bel.drewN ?_ _))⟩
   ·have HB:Hid (hasB l id=false):=Lib.hid (by rw[HH.out,HL.out,List.getElem?_eq_none (by omega)])
    go_wp2
    go_ret2
    exact⟨by rw[HL.out,HB.out];rfl,ext_of (by (try simp only[qdi]);repeat (first | exact Bel.refl _ | assumption | refine qdr ?_ _ | refine qds ?_ _ | refine Bel.ext ?_ _ | refine Bel.alloc ?_ _ | refine Bel.drewN ?_ _))⟩
set_option maxHeartbeats 400000 in
theorem qw7 (A:Option Addr) (c:Nat) (l:List Pt) (id:Int) (w:World) (hs:Sl w 3 A l.length c (vp l)) (hl:l.length<=1000000) (hinc:incB l=true) :
  Calls Tryz.prog 125 #[.agg #[.slice A l.length c],.int .i64 id] w fun e w'=>e=.returned (.tuple #[.int .i64 (lowB l id),.bool (hasB l id)])/\∃ x,w'=ext w x:=by
 have q:=Lib.hid (fun W hb=>qw6 A c l id W (hs.bel (w':=W) hb) hl hinc)
 clear hinc
 go_enter Tryz.func125,Tryz.ntmps125
 go_wp2_with ((go_at_call 86;refine (q.out _ (by (try simp only[qdi]);repeat (first | exact Bel.refl _ | assumption | refine qdr ?_ _ | refine qds ?_ _ | refine Bel.ext ?_ _ | refine Bel.alloc ?_ _ | refine Bel.drewN ?_ _))).mono ?_;rintro e _ ⟨rfl,nx,rfl⟩))
 go_ret2
 exact⟨rfl,ext_of (by (try simp only[qdi]);repeat (first | exact Bel.refl _ | assumption | refine qdr ?_ _ | refine qds ?_ _ | refine Bel.ext ?_ _ | refine Bel.alloc ?_ _ | refine Bel.drewN ?_ _))⟩
def fieldPlace (l:List Pt) (id:Int):Int×Int:=if qmq l≠0 then (0,qmq l) else if hasB l id then ((lowB l id:Int),0) else (0,6)
set_option maxHeartbeats 1000000 in
theorem qw8 (A:Option Addr) (c:Nat) (l:List Pt) (id:Int) (w:World) (hs:Sl w 3 A l.length c (vp l)) :
  Calls Tryz.prog 127 #[.agg #[.slice A l.length c],.int .i64 id] w fun e w'=>e=.returned (.tuple #[.int .i64 (fieldPlace l id).1,.int .i64 (fieldPlace l id).2])/\∃ x,w'=ext w x:=by
 have q1:=Lib.hid (fun W hb=>qri A c l W (hs.bel (w':=W) hb))
 by_cases h0:qmq l=0
 ·obtain⟨h1,h2,h3⟩:=qmv h0
  have q2:=Lib.hid (fun W hb=>qw7 A c l id W (hs.bel (w':=W) hb) (by omega) h3)
  cases hb:hasB l id with
  | true =>
   have H:Hid (fieldPlace l id=((lowB l id:Int),0)):=Lib.hid (by simp[fieldPlace,h0,hb])
   rw[h0]at q1
   rw[hb]at q2
   clear h0 h2 h3 hb
   go_enter Tryz.func127,Tryz.ntmps127
   go_wp2_with (first | (go_at_call 26;refine (q1.out _ (by (try simp only[qdi]);repeat (first | exact Bel.refl _ | assumption | refine qdr ?_ _ | refine qds ?_ _ | refine Bel.ext ?_ _ | refine Bel.alloc ?_ _ | refine Bel.drewN ?_ _))).mono ?_;rintro e _ ⟨rfl,nx,rfl⟩) | (go_at_call 125;refine (q2.out _ (by (try simp only[qdi]);repeat (first | exact Bel.refl _ | assumption | refine qdr ?_ _ | refine qds ?_ _ | refine Bel.ext ?_ _ | refine Bel.alloc ?_ _ | refine Bel.drewN ?_ _))).mono ?_;rintro e _ ⟨rfl,nx,rfl⟩))
   go_ret2
   exact⟨by rw[H.out];rfl,ext_of (by (try simp only[qdi]);repeat (first | exact Bel.refl _ | assumption | refine qdr ?_ _ | refine qds ?_ _ | refine Bel.ext ?_ _ | refine Bel.alloc ?_ _ | refine Bel.drewN ?_ _))⟩
  | false =>
   have H:Hid (fieldPlace l id=(0,6)):=Lib.hid (by simp[fieldPlace,h0,hb])
   rw[h0]at q1
   rw[hb]at q2
   clear h0 h2 h3 hb
   go_enter Tryz.func127,Tryz.ntmps127
   go_wp2_with (first | (go_at_call 26;refine (q1.out _ (by (try simp only[qdi]);repeat (first | exact Bel.refl _ | assumption | refine qdr ?_ _ | refine qds ?_ _ | refine Bel.ext ?_ _ | refine Bel.alloc ?_ _ | refine Bel.drewN ?_ _))).mono ?_;rintro e _ ⟨rfl,nx,rfl⟩) | (go_at_call 125;refine (q2.out _ (by (try simp only[qdi]);repeat (first | exact Bel.refl _ | assumption | refine qdr ?_ _ | refine qds ?_ _ | refine Bel.ext ?_ _ | refine Bel.alloc ?_ _ | refine Bel.drewN ?_ _))).mono ?_;rintro e _ ⟨rfl,nx,rfl⟩))
   go_ret2
   exact⟨by rw[H.out];rfl,ext_of (by (try simp only[qdi]);repeat (first | exact Bel.refl _ | assumption | refine qdr ?_ _ | refine qds ?_ _ | refine Bel.ext ?_ _ | refine Bel.alloc ?_ _ | refine Bel.drewN ?_ _))⟩
 ·have H:Hid (fieldPlace l id=(0,qmq l)):=Lib.hid (by simp[fieldPlace,h0])
  have hz:(qmq l==0)=false:=by simpa using h0
  have hz':(qmq l != 0)=true:=by simpa using h0
  clear h0
  go_enter Tryz.func127,Tryz.ntmps127
  go_wp2_with ((go_at_call 26;refine (q1.out _ (by (try simp only[qdi]);repeat (first | exact Bel.refl _ | assumption | refine qdr ?_ _ | refine qds ?_ _ | refine Bel.ext ?_ _ | refine Bel.alloc ?_ _ | refine Bel.drewN ?_ _))).mono ?_;rintro e _ ⟨rfl,nx,rfl⟩))
  go_ret2
  exact⟨by rw[H.out];rfl,ext_of (by (try simp only[qdi]);repeat (first | exact Bel.refl _ | assumption | refine qdr ?_ _ | refine qds ?_ _ | refine Bel.ext ?_ _ | refine Bel.alloc ?_ _ | refine Bel.drewN ?_ _))⟩
end Go.Proofs.YtfjjdnaggblaaaaGreat
namespace Go.Proofs.YtfjjdnaggblaaaaGreat
open Go.RowKit Go.Pel Go.IntWalk
set_option maxRecDepth 10000 in
set_option maxHeartbeats 1000000 in
theorem qw9 (A:Option Addr) (c:Nat) (l:List Pt) (w:World) (hs:Sl w 3 A l.length c (vp l)) (hn:A=none->c=0) (hl:l.length<=1000000) :
  Calls Tryz.prog 29 #[.slice A l.length c] w fun e w'=>∃ A' c',e=.returned (.slice A' l.length c')/\∃ x,w'=ext w x/\Own (ext w x) w.heap.size 39 3 A' l.length c' (vp l):=by
 have hnil:=fun W n c n' c'=>Lib.run_eql_slice_nil (P:=Tryz.prog) W 24 39 A n c n' c' Tryz.underlying24
 cases A with
 | none =>
  obtain rfl:=hn rfl
  obtain rfl:l=[]:=by
   cases l with
   | nil=>rfl
   | cons p l=>obtain⟨b,o,h,_⟩:=hs.at_ (by simp);cases h
  go_enter Tryz.func29,Tryz.ntmps29
  go_wp2
  go_ret
  exact⟨none,0,rfl,qmg _ _ _ _⟩
 | some a =>
  go_enter Tryz.func29,Tryz.ntmps29
  go_wp2_with ((at_builtin;(try refine qm3 rfl (by first | rfl | simp[yielded]) ?_);refine qm5 qrv (by (try simp only[qdi]);repeat (first | exact Bel.refl _ | assumption | refine qdr ?_ _ | refine qds ?_ _ | refine Bel.ext ?_ _ | refine Bel.alloc ?_ _ | refine Bel.drewN ?_ _)) (hs) (by (try simp only[qdi]);repeat (first | exact Bel.refl _ | assumption | refine qdr ?_ _ | refine qds ?_ _ | refine Bel.ext ?_ _ | refine Bel.alloc ?_ _ | refine Bel.drewN ?_ _)) (qmj _) (hn) (by omega) rfl _ _ rfl rfl rfl (by simp[go_sem]) ?_;rintro A1 c1 y1 hown1))
  go_ret
  exact⟨_,_,rfl,qlk (by (try simp only[qdi]);repeat (first | exact Bel.refl _ | assumption | refine qdr ?_ _ | refine qds ?_ _ | refine Bel.ext ?_ _ | refine Bel.alloc ?_ _ | refine Bel.drewN ?_ _)) (qm2 (by simp[go_sem]) hown1 (by simp[go_sem])) (Bel.refl _) (by simp[go_sem])⟩
theorem qwj {l:List Pt} {id:Int} (h:(fieldPlace l id).2=0):qmq l=0/\hasB l id=true/\(fieldPlace l id).1=lowB l id:=by
 unfold fieldPlace at h ⊢
 by_cases h0:qmq l=0
 ·cases hb:hasB l id
  ·simp[h0,hb]at h
  ·simp[h0]
 ·rw[if_pos h0]at h;exact absurd h h0
theorem qwk (l:List Pt) (id:Int):qn8 l id=if (fieldPlace l id).2=0 then (l.getD (lowB l id) Pt.zero,0) else (Pt.zero,(fieldPlace l id).2):=by
 unfold qn8 fieldPlace
 by_cases h0:qmq l=0
 ·cases hb:hasB l id<;>simp[h0]
 ·simp[h0]
set_option maxRecDepth 10000 in
set_option maxHeartbeats 2000000 in
theorem qwm (A:Option Addr) (c:Nat) (l:List Pt) (id:Int) (w:World) (hs:Sl w 3 A l.length c (vp l)) :
  Calls Tryz.prog 68 #[.agg #[.slice A l.length c],.int .i64 id] w fun e w'=>e=.returned (.tuple #[.agg #[.int .i64 (qn8 l id).1.id,.int .i64 (qn8 l id).1.a,.int .i64 (qn8 l id).1.b],.int .i64 (qn8 l id).2])/\∃ x,w'=ext w x:=by
 have q:=Lib.hid (fun W hb=>qw8 A c l id W (hs.bel (w':=W) hb))
 by_cases h:(fieldPlace l id).2=0
 ·obtain⟨h1,h2,h3⟩:=qwj h
  obtain⟨h64,hchk,hinc⟩:=qmv h1
  obtain⟨h4,p,hp,h5⟩:=qn7 hinc h2
  have HF:Hid (qn8 l id=(p,0)):=Lib.hid (by rw[qwk,if_pos h,List.getD_eq_getElem?_getD,hp];rfl)
  have hlt:lowB l id<l.length:=(List.getElem?_eq_some_iff.1 hp).1
  rw[h3,h]at q
  obtain⟨k,hk⟩:∃ k,lowB l id=k:=⟨_,rfl⟩
  rw[hk]at q hp hlt
  obtain⟨b,o,rfl,hb⟩:=hs.at_ (by omega)
  obtain⟨r0,r1,r2⟩:=qmn hs hp
  have hlt':(k:Int)<(l.length:Int):=by omega
  clear h h1 h2 h3 hk h4 h5 hchk hinc hp
  go_enter Tryz.func68,Tryz.ntmps68
  go_wp2_with ((go_at_call 127;refine (q.out _ (by (try simp only[qdi]);repeat (first | exact Bel.refl _ | assumption | refine qdr ?_ _ | refine qds ?_ _ | refine Bel.ext ?_ _ | refine Bel.alloc ?_ _ | refine Bel.drewN ?_ _))).mono ?_;rintro e _ ⟨rfl,nx,rfl⟩))
  exact bodyPost_ret (v:=.tuple #[.agg #[.int .i64 p.id,.int .i64 p.a,.int .i64 p.b],.int .i64 0]) (by simp[results,Tryz.results68,go_sem]) rfl ⟨by rw[HF.out],ext_of (by (try simp only[qdi]);repeat (first | exact Bel.refl _ | assumption | refine qdr ?_ _ | refine qds ?_ _ | refine Bel.ext ?_ _ | refine Bel.alloc ?_ _ | refine Bel.drewN ?_ _))⟩
 ·have HF:Hid (qn8 l id=(Pt.zero,(fieldPlace l id).2)):=Lib.hid (by rw[qwk,if_neg h])
  have hz:((fieldPlace l id).2==0)=false:=by simpa using h
  have hz':((fieldPlace l id).2 != 0)=true:=by simpa using h
  clear h
  go_enter Tryz.func68,Tryz.ntmps68
  go_wp2_with ((go_at_call 127;refine (q.out _ (by (try simp only[qdi]);repeat (first | exact Bel.refl _ | assumption | refine qdr ?_ _ | refine qds ?_ _ | refine Bel.ext ?_ _ | refine Bel.alloc ?_ _ | refine Bel.drewN ?_ _))).mono ?_;rintro e _ ⟨rfl,nx,rfl⟩))
  exact bodyPost_ret (v:=.tuple #[.agg #[.int .i64 0,.int .i64 0,.int .i64 0],.int .i64 (fieldPlace l id).2]) (by simp[results,Tryz.results68,go_sem]) rfl ⟨by (rw[HF.out];rfl),ext_of (by (try simp only[qdi]);repeat (first | exact Bel.refl _ | assumption | refine qdr ?_ _ | refine qds ?_ _ | refine Bel.ext ?_ _ | refine Bel.alloc ?_ _ | refine Bel.drewN ?_ _))⟩
end Go.Proofs.YtfjjdnaggblaaaaGreat
namespace Go.Proofs
open Go.Shelf
def Tryz.laysSort_ren:Go.Shelf.Ren:=⟨fun | 6=>72 | 15=>142 | 14=>141 | 28=>193 | 29=>194 | 20=>185 | 21=>186 | 22=>187 | 23=>188 | 24=>189 | 25=>190 | 26=>191 | 27=>192 | 46=>218 | 47=>219 | 48=>220 | 49=>221 | 50=>222 | 57=>238 | n=>n,fun | 22=>24 | 24=>39 | 25=>163 | 3=>3 | 39=>240 | 0=>0 | 53=>292 | 55=>80 | 4=>4 | 46=>286 | 45=>285 | 50=>175 | 5=>5 | 9=>9 | 66=>315 | 70=>319 | 76=>333 | 77=>334 | n=>n,fun | n=>n⟩
theorem Tryz.laysSort:Go.Proofs.SlLaysF0.n6 Tryz.prog Tryz.laysSort_ren:={
 mixed:=by kernel_rfl
 f6:=⟨Tryz.f72.name,by decide,Tryz.func72.trans (congrArg some (by kernel_rfl))⟩
 f14:=⟨Tryz.f141.name,by decide,Tryz.func141.trans (congrArg some (by kernel_rfl))⟩
 f15:=Tryz.func142.trans (congrArg some (by kernel_rfl))
 f20:=⟨Tryz.f185.name,by decide,Tryz.func185.trans (congrArg some (by kernel_rfl))⟩
 f21:=⟨Tryz.f186.name,by decide,Tryz.func186.trans (congrArg some (by kernel_rfl))⟩
 f22:=⟨Tryz.f187.name,by decide,Tryz.func187.trans (congrArg some (by kernel_rfl))⟩
 f23:=⟨Tryz.f188.name,by decide,Tryz.func188.trans (congrArg some (by kernel_rfl))⟩
 f24:=⟨Tryz.f189.name,by decide,Tryz.func189.trans (congrArg some (by kernel_rfl))⟩
 f25:=⟨Tryz.f190.name,by decide,Tryz.func190.trans (congrArg some (by kernel_rfl))⟩
 f26:=⟨Tryz.f191.name,by decide,Tryz.func191.trans (congrArg some (by kernel_rfl))⟩
 f27:=⟨Tryz.f192.name,by decide,Tryz.func192.trans (congrArg some (by kernel_rfl))⟩
 f28:=Tryz.func193.trans (congrArg some (by kernel_rfl))
 f29:=Tryz.func194.trans (congrArg some (by kernel_rfl))
 f46:=⟨Tryz.f218.name,by decide,Tryz.func218.trans (congrArg some (by kernel_rfl))⟩
 f47:=Tryz.func219.trans (congrArg some (by kernel_rfl))
 f48:=Tryz.func220.trans (congrArg some (by kernel_rfl))
 f49:=⟨Tryz.f221.name,by decide,Tryz.func221.trans (congrArg some (by kernel_rfl))⟩
 f50:=⟨Tryz.f222.name,by decide,Tryz.func222.trans (congrArg some (by kernel_rfl))⟩
 f57:=⟨Tryz.f238.name,by decide,Tryz.func238.trans (congrArg some (by kernel_rfl))⟩
 t0:=Tryz.underlying0
 a0:=Tryz.isAgg0
 z0:=Tryz.sizeOf0
 v0:=Tryz.zeroValue0
 t3:=Tryz.underlying3
 a3:=Tryz.isAgg3
 z3:=Tryz.sizeOf3
 v3:=Tryz.zeroValue3
 t4:=Tryz.underlying4
 a4:=Tryz.isAgg4
 z4:=Tryz.sizeOf4
 v4:=Tryz.zeroValue4
 t5:=Tryz.underlying5
 a5:=Tryz.isAgg5
 z5:=Tryz.sizeOf5
 v5:=Tryz.zeroValue5
 t9:=Tryz.underlying9
 a9:=Tryz.isAgg9
 z9:=Tryz.sizeOf9
 v9:=Tryz.zeroValue9
 t22:=Tryz.underlying24
 a22:=Tryz.isAgg24
 z22:=Tryz.sizeOf24
 v22:=Tryz.zeroValue24
 t25:=Tryz.underlying163
 a25:=Tryz.isAgg163
 z25:=Tryz.sizeOf163
 v25:=Tryz.zeroValue163
 t39:=Tryz.underlying240
 a39:=Tryz.isAgg240
 z39:=Tryz.sizeOf240
 v39:=Tryz.zeroValue240
 t45:=Tryz.underlying285
 a45:=Tryz.isAgg285
 z45:=Tryz.sizeOf285
 v45:=Tryz.zeroValue285
 t46:=Tryz.underlying286
 a46:=Tryz.isAgg286
 z46:=Tryz.sizeOf286
 v46:=Tryz.zeroValue286
 t50:=Tryz.underlying175
 a50:=Tryz.isAgg175
 z50:=Tryz.sizeOf175
 v50:=Tryz.zeroValue175
 t53:=Tryz.underlying292
 a53:=Tryz.isAgg292
 z53:=Tryz.sizeOf292
 v53:=Tryz.zeroValue292
 t55:=Tryz.underlying80
 a55:=Tryz.isAgg80
 z55:=Tryz.sizeOf80
 v55:=Tryz.zeroValue80
 t66:=Tryz.underlying315
 a66:=Tryz.isAgg315
 z66:=Tryz.sizeOf315
 v66:=Tryz.zeroValue315
 t70:=Tryz.underlying319
 a70:=Tryz.isAgg319
 z70:=Tryz.sizeOf319
 v70:=Tryz.zeroValue319
 t76:=Tryz.underlying333
 a76:=Tryz.isAgg333
 z76:=Tryz.sizeOf333
 v76:=Tryz.zeroValue333
 t77:=Tryz.underlying334
 a77:=Tryz.isAgg334
 z77:=Tryz.sizeOf334
 v77:=Tryz.zeroValue334 }
end Go.Proofs
namespace Go.Pel
open Go.Sort Go.Proofs
def qwo (p:Pt) (n d:Int):Int:=p.a*d+p.b*n
theorem qwp (p q:Pt) (n d:Int):farD p q n d=qwo p n d-qwo q n d:=by
 unfold farD qwo;rw[Int.sub_mul,Int.sub_mul];omega
theorem qwq (p q:Pt) (n d:Int):leads p q n d=true↔qwo q n d<qwo p n d∨(qwo q n d=qwo p n d/\(q.b<p.b∨(q.b=p.b/\p.id<q.id))):=by
 unfold leads
 rw[qwp]
 by_cases h:qwo p n d-qwo q n d≠0
 ·rw[if_pos h];simp;omega
 ·rw[if_neg h]
  by_cases h2:p.b≠q.b
  ·rw[if_pos h2];simp;omega
  ·rw[if_neg h2];simp;omega
def cfP (n d:Int) (p q:Pt):Int:=if p.id=q.id then 0 else if leads p q n d then -1 else 1
theorem qwr (n d:Int) (p q:Pt):ltOf (cfP n d) p q=true↔p.id≠q.id/\leads p q n d=true:=by
 unfold ltOf cfP
 by_cases h:p.id=q.id
 ·rw[if_pos h];simp[h]
 ·rw[if_neg h]
  by_cases h2:leads p q n d=true
  ·rw[if_pos h2];simp[h,h2]
  ·rw[if_neg h2];simp[h2]
def cfL (n d:Int) (l:List Pt) (x y:{p:Pt // p∈l}):Int:=cfP n d x.1 y.1
theorem qws (n d:Int) (l:List Pt) (x y:{p:Pt // p∈l}):ltOf (cfL n d l) x y=true↔x.1.id≠y.1.id/\leads x.1 y.1 n d=true:=qwr n d x.1 y.1
def qwt (l:List Pt):Prop:=∀ p∈l,∀ q∈l,p.id=q.id->p=q
theorem nlt {n d:Int} {p q:Pt} (h:leads p q n d=false):¬ (qwo q n d<qwo p n d∨(qwo q n d=qwo p n d/\(q.b<p.b∨(q.b=p.b/\p.id<q.id)))):=by
 rw[← qwq,h];decide
theorem qwu {n d:Int} {l:List Pt} (hi:qwt l):SWO (ltOf (cfL n d l)):=by
 have F:∀ x y,ltOf (cfL n d l) x y=false↔(x=y∨(x.1.id≠y.1.id/\leads x.1 y.1 n d=false)):=by
  intro x y
  rw[← Bool.not_eq_true,qws]
  constructor
  ·intro h
   by_cases he:x.1.id=y.1.id
   ·exact .inl (Subtype.ext (hi _ x.2 _ y.2 he))
   ·exact .inr ⟨he,by simpa [he] using h⟩
  ·rintro (rfl | ⟨h1,h2⟩)
   ·simp
   ·simp[h2]
 constructor
 ·intro x;exact (F x x).2 (.inl rfl)
 ·intro x y z h1 h2
  rw[qws,qwq]at h1 h2 ⊢
  refine⟨?_,by omega⟩
  intro h
  obtain rfl:x=z:=Subtype.ext (hi _ x.2 _ z.2 h)
  omega
 ·intro x y z h1 h2
  rw[F]at h1 h2 ⊢
  rcases h1 with rfl | ⟨h1,k1⟩
  ·exact h2
  rcases h2 with rfl | ⟨h2,k2⟩
  ·exact .inr ⟨h1,k1⟩
  have k1:=nlt k1
  have k2:=nlt k2
  by_cases hne:x.1.id=z.1.id
  ·exact .inl (Subtype.ext (hi _ x.2 _ z.2 hne))
  refine .inr ⟨hne,?_⟩
  rw[← Bool.not_eq_true,qwq]
  omega
theorem qwv {n d:Int} {l:List Pt} (hi:qwt l) (x y:{p:Pt // p∈l}) (h1:ltOf (cfL n d l) x y=false) (h2:ltOf (cfL n d l) y x=false):x=y:=by
 rw[← Bool.not_eq_true,qws]at h1 h2
 by_cases he:x.1.id=y.1.id
 ·exact Subtype.ext (hi _ x.2 _ y.2 he)
 ·exfalso
  have h1':leads x.1 y.1 n d=false:=by simpa [he] using h1
  have h2':leads y.1 x.1 n d=false:=by simpa [Ne.symm he] using h2
  have:=nlt h1'
  have:=nlt h2'
  omega
def qww (n d:Int) (l:List Pt):List Pt:=((l.attach.mergeSort fun x y=>!(ltOf (cfL n d l)) y x)).map Subtype.val
theorem qwx (n d:Int) (l:List Pt):(qww n d l).Perm l:=by
 unfold qww
 have:=(List.mergeSort_perm l.attach (fun x y=>!(ltOf (cfL n d l)) y x)).map Subtype.val
 simpa [List.attach_map_subtype_val] using this
theorem qwy (n d:Int) (l:List Pt):(qww n d l).length=l.length:=(qwx n d l).length_eq
theorem qwz {n d:Int} {l:List Pt} (hi:qwt l) (hn:(l.map Pt.id).Nodup):(qww n d l).Pairwise fun p q=>leads p q n d=true:=by
 have hO:=qwu (n:=n) (d:=d) hi
 have h1:(l.attach.mergeSort fun x y=>!(ltOf (cfL n d l)) y x).Pairwise fun x y=>(!(ltOf (cfL n d l)) y x)=true:=by
  apply List.pairwise_mergeSort
  ·intro a b c h1 h2
   simp only[Bool.not_eq_true',]at h1 h2 ⊢
   exact hO.ntrans _ _ _ h2 h1
  ·intro a b
   simp only[Bool.or_eq_true,Bool.not_eq_true']
   by_cases h:ltOf (cfL n d l) b a=true
   ·right
    rcases hq:ltOf (cfL n d l) a b with _ | _
    ·rfl
    ·have:=hO.trans _ _ _ h hq;rw[hO.irrefl]at this;exact absurd this (by decide)
   ·left;simpa using h
 have h2:(qww n d l).Pairwise fun p q=>p.id≠q.id:=by
  have:=((qwx n d l).map Pt.id).nodup_iff.2 hn
  exact List.pairwise_map.1 this
 have h3:(qww n d l).Pairwise fun p q=>¬ (q.id≠p.id/\leads q p n d=true):=by
  unfold qww
  rw[List.pairwise_map]
  refine h1.imp ?_
  intro a b h
  rw[← qws]
  simpa using h
 refine (h2.and h3).imp ?_
 rintro p q ⟨h,h'⟩
 have h4:leads q p n d=false:=by simpa [Ne.symm h] using h'
 have:=nlt h4
 rw[qwq]
 omega
end Go.Pel
namespace Go.Proofs.YtfjjdnaggblaaaaGreat
open Go.RowKit Go.Pel
set_option maxRecDepth 10000 in
set_option maxHeartbeats 2000000 in
theorem qx0 (p q:Pt) (n d:Int) (rb:Nat) (w:World) (hn:-9223372036854775808<=n/\n<=9223372036854775807) (hd:-9223372036854775808<=d/\d<=9223372036854775807) (r0:Held w rb 0 (.int .i64 n)) (r1:Held w rb 1 (.int .i64 d)) (ht:p.id≠q.id->qqu p q n d=0) :
  Calls Tryz.prog 73 #[.agg #[.int .i64 p.id,.int .i64 p.a,.int .i64 p.b],.agg #[.int .i64 q.id,.int .i64 q.a,.int .i64 q.b],.pointer (some ⟨rb,0,none⟩)] w fun e w'=>e=.returned (.int .i64 (cfP n d p q))/\∃ x,w'=ext w x:=by
 have hb:=r0.lt
 have c0:=r0.eq
 have c1:=r1.eq
 have q1:=Lib.hid (fun W=>qrm p q n d W hn hd)
 clear hn hd r0 r1
 by_cases h:p.id=q.id
 ·have HV:=Lib.hid (show (0:Int)=cfP n d p q from (if_pos h).symm)
  clear ht q1
  go_enter Tryz.func73,Tryz.ntmps73
  go_wp2
  (go_ret;exact⟨qpv (by exact HV.out),ext_of (by (try simp only[qdi]);repeat (first | exact Bel.refl _ | assumption | refine qdr ?_ _ | refine qds ?_ _ | refine Bel.ext ?_ _ | refine Bel.alloc ?_ _ | refine Bel.drewN ?_ _))⟩)
 ·have HA:qqz p q n d=(leads p q n d,0):=if_pos (ht h)
  rw[HA]at q1
  clear ht HA
  rcases hL:leads p q n d with _ | _
  ·have HV:=Lib.hid (show (1:Int)=cfP n d p q by unfold cfP;rw[if_neg h,hL];rfl)
   rw[hL]at q1
   clear hL
   go_enter Tryz.func73,Tryz.ntmps73
   go_wp2_with ((go_at_call 74;(with_reducible refine (q1.out _).mono ?_);rintro e _ ⟨rfl,nx,rfl⟩))
   (go_ret;exact⟨qpv (by exact HV.out),ext_of (by (try simp only[qdi]);repeat (first | exact Bel.refl _ | assumption | refine qdr ?_ _ | refine qds ?_ _ | refine Bel.ext ?_ _ | refine Bel.alloc ?_ _ | refine Bel.drewN ?_ _))⟩)
  ·have HV:=Lib.hid (show (-1:Int)=cfP n d p q by unfold cfP;rw[if_neg h,hL];rfl)
   rw[hL]at q1
   clear hL
   go_enter Tryz.func73,Tryz.ntmps73
   go_wp2_with ((go_at_call 74;(with_reducible refine (q1.out _).mono ?_);rintro e _ ⟨rfl,nx,rfl⟩))
   (go_ret;exact⟨qpv (by exact HV.out),ext_of (by (try simp only[qdi]);repeat (first | exact Bel.refl _ | assumption | refine qdr ?_ _ | refine qds ?_ _ | refine Bel.ext ?_ _ | refine Bel.alloc ?_ _ | refine Bel.drewN ?_ _))⟩)
end Go.Proofs.YtfjjdnaggblaaaaGreat
namespace Go
open RowKit Go.Sort Go.Proofs Go.Shelf
theorem qx1 {α:Type} [Inhabited α] (enc:α->List Value) (k:Nat) (hk:∀ x,(enc x).length=k):∀ (l:List α),(flatK enc k l.toArray).toList=l.flatMap enc:=by
 intro l
 have key:∀ (l:List α) (t:Nat),t<l.length*k->(l.flatMap enc)[t]?=some ((enc l[t/k]!)[t%k]!):=by
  intro l
  induction l with
  | nil=>intro t ht;simp at ht
  | cons a r ih =>
   intro t ht
   have k0:0<k:=by
    rcases Nat.eq_zero_or_pos k with h | h
    ·subst h;simp at ht
    ·exact h
   rw[List.flatMap_cons]
   by_cases hlt:t<k
   ·rw[List.getElem?_append_left (by rw[hk];exact hlt),Nat.div_eq_of_lt hlt,Nat.mod_eq_of_lt hlt]
    have:t<(enc a).length:=by rw[hk];exact hlt
    simp[this]
   ·rw[List.getElem?_append_right (by rw[hk];omega),hk]
    have h2:t-k<r.length*k:=by
     rw[List.length_cons,Nat.add_mul,Nat.one_mul]at ht;omega
    rw[ih (t-k) h2]
    have e1:t/k=(t-k)/k+1:=by
     have:=Nat.div_eq_sub_div k0 (by omega:k<=t)
     omega
    have e2:t%k=(t-k)%k:=Nat.mod_eq_sub_mod (by omega)
    rw[e1,e2]
    simp
 have hlen:(l.flatMap enc).length=l.length*k:=by
  induction l with
  | nil=>simp
  | cons a r ih=>rw[List.flatMap_cons,List.length_append,ih,hk,List.length_cons,Nat.add_mul,Nat.one_mul];omega
 apply List.ext_getElem?
 intro t
 by_cases ht:t<l.length*k
 ·rw[key l t ht]
  simp[flatK,ht]
 ·rw[List.getElem?_eq_none (by simp[flatK];omega),List.getElem?_eq_none (by rw[hlen];omega)]
theorem qx2 {w:World} {base g cap size:Nat} {e:TypeId} {cur:List Value} (h:Row w base e size g cap cur) (q:Nat) (F:Array Value) (hF:F.size<=cur.length):Row (putRow id (Sort.ahead w q) g 0 F) base e size g cap (F.toList++cur.drop F.size):=by
 refine⟨h.1,?_,h.2.2.1,?_⟩
 ·have:putCells id 0 F cur.toArray=(F.toList++cur.drop F.size).toArray:=by
   apply Array.ext_getElem?
   intro k
   simp only[putCells,Array.getElem?_mapIdx,List.getElem?_toArray]
   by_cases hk:k<F.size
   ·rw[List.getElem?_append_left (by simpa using hk)]
    have:k<cur.length:=by omega
    simp[this,hk]
   ·rw[List.getElem?_append_right (by simpa using hk)]
    simp[hk,show F.size+(k-F.size)=k by omega]
  unfold putRow mapBlock Sort.ahead
  simp[Array.getElem?_modify,h.2.1,onCells,this]
 ·rw[List.length_append,List.length_drop,← h.len];simp;omega
theorem qx3 (g:Nat) (w:World) (q off:Nat) (F:Array Value):Apart g w (putRow id (Sort.ahead w q) g off F) :=
 ⟨rfl,rfl,rfl,by simp[putRow,mapBlock,Sort.ahead],by simp[putRow,mapBlock,Sort.ahead],fun b hb=>by simp[putRow,mapBlock,Sort.ahead,Array.getElem?_modify,Ne.symm hb]⟩
theorem qx4 (w:World) (os:Array Obj):Bel w (grow w os) :=
 ⟨⟨rfl,rfl,rfl,by simp[grow],fun k hk=>by simp only[grow];rw[Array.getElem?_append_left hk]⟩,Nat.le_refl _⟩
theorem qx5 (w:World) (x:Beyond):ext w x=grow (w.drewN x.drawn) x.objs:=by
 unfold ext grow World.drewN;rfl
end Go
namespace Go.Proofs.YtfjjdnaggblaaaaGreat
open Go.RowKit Go.Pel Go.Sort Go.Shelf
def encL (l:List Pt) (x:{p:Pt // p∈l}):List Value:=x.1.cells
theorem qx6 (l:List Pt) (m:List {p:Pt // p∈l}):m.flatMap (encL l)=vp (m.map Subtype.val):=by
 unfold vp encL;rw[List.flatMap_map]
set_option maxRecDepth 10000 in
set_option maxHeartbeats 1000000 in
theorem qx7 (A:Option Addr) (c:Nat) (l:List Pt) (n d:Int) (rb B:Nat) (wB w:World) (hs:Own w B 39 3 A l.length c (vp l)) (hb:Bel wB w) (hB:wB.heap.size<=B) (hrb:rb<B)
  (r0:Held w rb 0 (.int .i64 n)) (r1:Held w rb 1 (.int .i64 d)) (hn:-9223372036854775808<=n/\n<=9223372036854775807) (hd:-9223372036854775808<=d/\d<=9223372036854775807) (hl:l.length<=1000000) (hi:qwt l) (ht:∀ p∈l,∀ q∈l,p.id≠q.id->qqu p q n d=0) :
  Calls Tryz.prog 72 #[.slice A l.length c,.func (.func 73) #[] #[.pointer (some ⟨rb,0,none⟩)]] w fun e w'=>e=.returned (.tuple #[])/\∃ y,w'=ext wB y/\Own (ext wB y) B 39 3 A l.length c (vp (qww n d l)):=by
 by_cases h0:l=[]
 ·subst h0
  have hcon:=AnyF.slices_SortFunc_none Tryz.laysSort A c (.func (.func 73) #[] #[.pointer (some ⟨rb,0,none⟩)]) w
  refine Calls.mono hcon ?_
  rintro e w' ⟨rfl,rfl⟩
  refine⟨rfl,qlw hb ?_ (Bel.refl _)⟩
  have e0:qww n d []=[]:=List.eq_nil_of_length_eq_zero (qwy n d [])
  rw[e0];exact hs
 ·rcases hs.row with⟨rfl,hn,_⟩ | ⟨g,cur,rfl,hr,hnc,hcur⟩
  ·exact absurd (List.eq_nil_of_length_eq_zero hn) h0
  have hg:=hr.1
  haveI:Inhabited {p:Pt // p∈l}:=⟨⟨l.head h0,List.head_mem h0⟩⟩
  have hcl:(vp l).length<=cur.length:=by rw[← hcur,List.length_take];omega
  have eg:∀ args w,(callFunc 73 args).run Tryz.prog w=.ok (.enter 73 args) w:=enters_of Tryz.func73 (by kernel_rfl) rfl
  have hk:∀ x,(encL l x).length=3:=fun _=>rfl
  have hflat:∀ m:List {p:Pt // p∈l},(flatK (encL l) 3 m.toArray).toList=vp (m.map Subtype.val):=fun m=>by rw[qx1 _ _ hk,qx6]
  have hcmp:CmpLays Tryz.prog 73 #[.pointer (some ⟨rb,0,none⟩)] (encL l) 3 (cfL n d l) g 0 l.attach.toArray.size w:=by
   intro m os dk _ x y
   have hap:Apart g w (putRowK (encL l) 3 (Sort.ahead w m) g 0 dk):=qx3 g w m 0 _
   have hbg:Bel (putRowK (encL l) 3 (Sort.ahead w m) g 0 dk) (sortWorldK (encL l) 3 w g 0 m dk os):=qx4 _ os
   have h:=qx0 x.1 y.1 n d rb (sortWorldK (encL l) 3 w g 0 m dk os) hn hd ((r0.apart hap (by omega)).bel hbg) ((r1.apart hap (by omega)).bel hbg) (ht _ x.2 _ y.2)
   refine Calls.mono h ?_
   rintro e w' ⟨rfl,z,rfl⟩
   exact⟨rfl,z.drawn,z.objs,qx5 _ z⟩
  have hfl:(flatK (encL l) 3 l.attach.toArray)=(vp l).toArray:=by
   apply Array.toList_inj.1
   rw[hflat,List.attach_map_subtype_val]
  have hH:HoldsK (encL l) 3 w g 0 l.attach.toArray:=by
   unfold HoldsK
   rw[hfl]
   intro j hj
   have hj':j<(vp l).length:=by simpa using hj
   refine⟨?_,hr.frozen _⟩
   rw[Nat.zero_add]
   refine hr.cell ?_
   have:cur[j]?=(vp l)[j]?:=by
    rw[← hcur,List.getElem?_take,if_pos]
    rw[qmk]at hj';exact hj'
   rw[this]
   simp[hj']
  have hcon:=AnyQ.slices_SortFunc_total Tryz.laysSort 3 Tryz.isAgg39 Tryz.sizeOf39 (encL l) hk (fun x v hv=>qmi x.1 v hv) (cfL n d l) (qwu hi) 73 #[.pointer (some ⟨rb,0,none⟩)] g 0 c l.attach.toArray w eg hcmp hH hr.lt (by simp;omega) (fun x y h1 h2=>qwv hi x y h1 h2)
  have hsz:l.attach.toArray.size=l.length:=by simp
  rw[hsz]at hcon
  refine Calls.mono hcon ?_
  rintro e w' ⟨rfl,m,os,rfl⟩
  refine⟨rfl,?_⟩
  have hF:flatK (encL l) 3 (l.attach.mergeSort fun x y=>!(ltOf (cfL n d l)) y x).toArray=(vp (qww n d l)).toArray:=by
   apply Array.toList_inj.1
   rw[hflat];rfl
  have hlen:(vp (qww n d l)).length=l.length*3:=by rw[qmk,qwy]
  have hrow:=qx2 hr m (vp (qww n d l)).toArray (by rw[qmk]at hcl;simp;omega)
  have hap:Apart g w (putRow id (Sort.ahead w m) g 0 (vp (qww n d l)).toArray):=qx3 g w m 0 _
  have hown:=hrow.own hnc
  have htk:List.take (l.length*3) ((vp (qww n d l)).toArray.toList++List.drop (vp (qww n d l)).toArray.size cur)=vp (qww n d l):=by
   simp only[List.size_toArray]
   rw[List.take_append_of_le_length (by omega),← hlen,List.take_length]
  rw[htk]at hown
  unfold sortWorldK putRowK
  show ∃ y,grow (putRow id (Sort.ahead w m) g 0 (flatK (encL l) 3 (l.attach.mergeSort fun x y=>!(ltOf (cfL n d l)) y x).toArray)) os=ext wB y/\_
  rw[hF]
  exact qlw ((hap.bel hb (by omega)).trans (qx4 _ os)) hown (qx4 _ os)
end Go.Proofs.YtfjjdnaggblaaaaGreat
namespace Go.Pel
def qx8 (l:List Pt) (n d:Int):List Pt×Int:=if qmq l≠0 then ([],qmq l) else if qjo n d≠0 then ([],qjo n d) else (qww n d l,0)
theorem qx9 {l:List Pt} (h:incB l=true):qwt l:=by
 intro p hp q hq he
 obtain⟨i,hi⟩:=List.mem_iff_getElem?.1 hp
 obtain⟨j,hj⟩:=List.mem_iff_getElem?.1 hq
 rcases (by omega:i<j∨j<i∨i=j) with k | k | k
 ·have:=qmp h k hi hj;omega
 ·have:=qmp h k hj hi;omega
 ·subst k;rw[hi]at hj;exact Option.some.inj hj
end Go.Pel
namespace Go.Proofs.YtfjjdnaggblaaaaGreat
open Go.RowKit Go.Pel
set_option maxRecDepth 10000 in
set_option maxHeartbeats 2000000 in
theorem qxa (A:Option Addr) (c:Nat) (l:List Pt) (n d:Int) (w:World) (hn:-9223372036854775808<=n/\n<=9223372036854775807) (hd:-9223372036854775808<=d/\d<=9223372036854775807) (hs:Sl w 3 A l.length c (vp l)) (hn0:A=none->c=0) :
  Calls Tryz.prog 25 #[.agg #[.slice A l.length c],.agg #[.int .i64 n,.int .i64 d]] w fun e w'=>∃ A' c',e=.returned (.tuple #[.slice A' (qx8 l n d).1.length c',.int .i64 (qx8 l n d).2])/\∃ x,w'=ext w x/\Own (ext w x) w.heap.size 39 3 A' (qx8 l n d).1.length c' (vp (qx8 l n d).1):=by
 have q:=Lib.hid (fun W hb=>qri A c l W (hs.bel (w':=W) hb))
 have q2:=Lib.hid (fun W=>qq1 n d W hn hd)
 by_cases h:qmq l=0
 ·rw[h]at q
  obtain⟨h64,hchk,hinc⟩:=qmv h
  by_cases h2:qjo n d=0
  ·rw[h2]at q2
   have HF:Hid (qx8 l n d=(qww n d l,0)):=Lib.hid (by unfold qx8;rw[if_neg (by simpa using h),if_neg (by simpa using h2)])
   have q3:=Lib.hid (fun W hb=>qw9 A c l W (hs.bel (w':=W) hb) hn0 (by omega))
   have hia:=qx9 hinc
   have hap:∀ p∈l,∀ q∈l,p.id≠q.id->qqu p q n d=0:=fun p hp q hq hne=>qqx ⟨hchk p hp,hchk q hq,h2⟩ hne
   have q4:=Lib.hid (fun (A2:Option Addr) (c2 rb B:Nat) (W:World) (hs2:Own W B 39 3 A2 l.length c2 (vp l)) (hb:Bel w W) (hB:w.heap.size<=B) (hrb:rb<B) (r0:Held W rb 0 (.int .i64 n)) (r1:Held W rb 1 (.int .i64 d))=>qx7 A2 c2 l n d rb B w W hs2 hb hB hrb r0 r1 hn hd (by omega) hia hap)
   rw[HF.out]
   clear h h2 h64 hchk hinc hia hap hn hd HF
   have HL:=Lib.hid (qwy n d l)
   go_enter Tryz.func25,Tryz.ntmps25
   go_wp2_with (first | (go_at_call 26;refine (q.out _ (by (try simp only[qdi]);repeat (first | exact Bel.refl _ | assumption | refine qdr ?_ _ | refine qds ?_ _ | refine Bel.ext ?_ _ | refine Bel.alloc ?_ _ | refine Bel.drewN ?_ _))).mono ?_;rintro e _ ⟨rfl,nx,rfl⟩) | (go_at_call 27;refine (q2.out _).mono ?_;rintro e _ ⟨rfl,nx,rfl⟩))
   refine (q3.out _ (by (try simp only[qdi]);repeat (first | exact Bel.refl _ | assumption | refine qdr ?_ _ | refine qds ?_ _ | refine Bel.ext ?_ _ | refine Bel.alloc ?_ _ | refine Bel.drewN ?_ _))).mono ?_
   rintro e _ ⟨A2,c2,rfl,x2,rfl,own2⟩
   simp only[qdi]at own2 ⊢
   have own3:=own2.base_le (base':=w.heap.size+2) (by simp[go_sem])
   clear own2
   generalize hZ:((_:Beyond).and _).and x2=Z at own3 ⊢
   obtain⟨W2,hW2⟩:∃ W2,ext ((w.alloc (.cells #[.slice A l.length c] 26)).alloc (.cells #[.int .i64 n,.int .i64 d] 23)) Z=W2:=⟨_,rfl⟩
   rw[hW2]at own3 ⊢
   have hb2:Bel w W2:=by rw[← hW2];exact (by (try simp only[qdi]);repeat (first | exact Bel.refl _ | assumption | refine qdr ?_ _ | refine qds ?_ _ | refine Bel.ext ?_ _ | refine Bel.alloc ?_ _ | refine Bel.drewN ?_ _))
   have hb3:Bel ((w.alloc (.cells #[.slice A l.length c] 26)).alloc (.cells #[.int .i64 n,.int .i64 d] 23)) W2:=by rw[← hW2];exact qai _ _
   have e1:(w.alloc (.cells #[.slice A l.length c] 26)).heap.size=w.heap.size+1:=by simp[go_sem]
   have r0:=Held.new (j:=0) hb3 rfl
   have r1:=Held.new (j:=1) hb3 rfl
   rw[e1]at r0 r1
   have q5:=q4.out A2 c2 (w.heap.size+1) (w.heap.size+2) W2 own3 hb2 (by omega) (by omega) r0 r1
   clear hW2 hZ q4 q3 q2 q r0 r1 hb3 own3
   go_wp2_with (go_at_call 72;refine q5.mono ?_;rintro e _ ⟨rfl,y,rfl,own4⟩)
   go_ret2
   refine⟨A2,c2,?_,y,rfl,?_⟩
   ·rw[HL.out];rfl
   ·rw[HL.out];exact own4.base_le (by omega)
  ·rw[show qx8 l n d=([],qjo n d) by unfold qx8;rw[if_neg (by simpa using h),if_pos h2]]
   have h2':(qjo n d != 0)=true:=by simpa using h2
   clear h h64 hchk hinc h2 hn hd
   go_enter Tryz.func25,Tryz.ntmps25
   go_wp2_with (first | (go_at_call 26;refine (q.out _ (by (try simp only[qdi]);repeat (first | exact Bel.refl _ | assumption | refine qdr ?_ _ | refine qds ?_ _ | refine Bel.ext ?_ _ | refine Bel.alloc ?_ _ | refine Bel.drewN ?_ _))).mono ?_;rintro e _ ⟨rfl,nx,rfl⟩) | (go_at_call 27;refine (q2.out _).mono ?_;rintro e _ ⟨rfl,nx,rfl⟩))
   go_ret2
   exact⟨none,0,rfl,qlw (by (try simp only[qdi]);repeat (first | exact Bel.refl _ | assumption | refine qdr ?_ _ | refine qds ?_ _ | refine Bel.ext ?_ _ | refine Bel.alloc ?_ _ | refine Bel.drewN ?_ _)) (Own.nil_ _ _ _ _) (Bel.refl _)⟩
 ·rw[show qx8 l n d=([],qmq l) by unfold qx8;rw[if_pos h]]
  have h':(qmq l != 0)=true:=by simpa using h
  clear h hn hd
  go_enter Tryz.func25,Tryz.ntmps25
  go_wp2_with (first | (go_at_call 26;refine (q.out _ (by (try simp only[qdi]);repeat (first | exact Bel.refl _ | assumption | refine qdr ?_ _ | refine qds ?_ _ | refine Bel.ext ?_ _ | refine Bel.alloc ?_ _ | refine Bel.drewN ?_ _))).mono ?_;rintro e _ ⟨rfl,nx,rfl⟩))
  go_ret2
  exact⟨none,0,rfl,qlw (by (try simp only[qdi]);repeat (first | exact Bel.refl _ | assumption | refine qdr ?_ _ | refine qds ?_ _ | refine Bel.ext ?_ _ | refine Bel.alloc ?_ _ | refine Bel.drewN ?_ _)) (Own.nil_ _ _ _ _) (Bel.refl _)⟩
end Go.Proofs.YtfjjdnaggblaaaaGreat
namespace Go.Pel
def qxb (l:List Pt) (n d:Int):Int×Int:=if (qx8 l n d).2≠0 then (0,(qx8 l n d).2) else match (qx8 l n d).1 with | []=>(0,42) | p::_=>(p.id,0)
end Go.Pel
namespace Go.Proofs.YtfjjdnaggblaaaaGreat
open Go.RowKit Go.Pel
set_option maxRecDepth 10000 in
set_option maxHeartbeats 2000000 in
theorem qxc (A:Option Addr) (c:Nat) (l:List Pt) (n d:Int) (w:World) (hn:-9223372036854775808<=n/\n<=9223372036854775807) (hd:-9223372036854775808<=d/\d<=9223372036854775807) (hs:Sl w 3 A l.length c (vp l)) (hn0:A=none->c=0) :
  Calls Tryz.prog 67 #[.agg #[.slice A l.length c],.agg #[.int .i64 n,.int .i64 d]] w fun e w'=>e=.returned (.tuple #[.int .i64 (qxb l n d).1,.int .i64 (qxb l n d).2])/\∃ x,w'=ext w x:=by
 have q:=Lib.hid (fun W hb=>qxa A c l n d W hn hd (hs.bel (w':=W) hb) hn0)
 unfold qxb
 generalize qx8 l n d=F at q ⊢
 obtain⟨m,v⟩:=F
 simp only at q ⊢
 by_cases h:v=0
 ·subst h
  rw[if_neg (by decide)]
  cases m with
  | nil =>
   clear hn hd
   go_enter Tryz.func67,Tryz.ntmps67
   go_wp2_with (go_at_call 25;refine (q.out _ (by (try simp only[qdi]);repeat (first | exact Bel.refl _ | assumption | refine qdr ?_ _ | refine qds ?_ _ | refine Bel.ext ?_ _ | refine Bel.alloc ?_ _ | refine Bel.drewN ?_ _))).mono ?_;rintro e _ ⟨A2,c2,rfl,x2,rfl,own2⟩)
   go_ret2
   exact⟨rfl,ext_of (by (try simp only[qdi]);repeat (first | exact Bel.refl _ | assumption | refine qdr ?_ _ | refine qds ?_ _ | refine Bel.ext ?_ _ | refine Bel.alloc ?_ _ | refine Bel.drewN ?_ _))⟩
  | cons p r =>
   clear hn hd
   go_enter Tryz.func67,Tryz.ntmps67
   go_wp2_with (go_at_call 25;refine (q.out _ (by (try simp only[qdi]);repeat (first | exact Bel.refl _ | assumption | refine qdr ?_ _ | refine qds ?_ _ | refine Bel.ext ?_ _ | refine Bel.alloc ?_ _ | refine Bel.drewN ?_ _))).mono ?_;rintro e _ ⟨A2,c2,rfl,x2,rfl,own2⟩;have s2:=own2.sl;have hlen:(0:Int)<((p::r).length:Int):=(Int.ofNat_lt.2 (Nat.succ_pos _));have hz:(((p::r).length:Int)==0)=false:=(by rw[beq_eq_false_iff_ne];omega);obtain⟨b,o,rfl,hb2⟩:=s2.at_ (by simp);obtain⟨r0,_,_⟩:=qmn s2 (i:=0) (p:=p) rfl;rw[Nat.zero_mul,Nat.add_zero]at r0;clear own2 s2)
   go_ret2
   exact⟨rfl,ext_of (by (try simp only[qdi]);repeat (first | exact Bel.refl _ | assumption | refine qdr ?_ _ | refine qds ?_ _ | refine Bel.ext ?_ _ | refine Bel.alloc ?_ _ | refine Bel.drewN ?_ _))⟩
 ·rw[if_pos h]
  have h':(v != 0)=true:=by simpa using h
  clear h hn hd
  go_enter Tryz.func67,Tryz.ntmps67
  go_wp2_with (go_at_call 25;refine (q.out _ (by (try simp only[qdi]);repeat (first | exact Bel.refl _ | assumption | refine qdr ?_ _ | refine qds ?_ _ | refine Bel.ext ?_ _ | refine Bel.alloc ?_ _ | refine Bel.drewN ?_ _))).mono ?_;rintro e _ ⟨A2,c2,rfl,x2,rfl,own2⟩)
  go_ret2
  exact⟨rfl,ext_of (by (try simp only[qdi]);repeat (first | exact Bel.refl _ | assumption | refine qdr ?_ _ | refine qds ?_ _ | refine Bel.ext ?_ _ | refine Bel.alloc ?_ _ | refine Bel.drewN ?_ _))⟩
end Go.Proofs.YtfjjdnaggblaaaaGreat
namespace Go.Pel
open Go
def qxd (l:List Pt) (n d:Int):List Int×Int:=if (qx8 l n d).2≠0 then ([],(qx8 l n d).2) else ((qx8 l n d).1.map Pt.id,0)
def qxe (m:List Pt) (k:Nat):List Value:=vi ((m.take k).map Pt.id)++List.replicate (m.length-k) (.int .i64 0)
theorem qxf {m:List Pt} {k:Nat} {p:Pt} (h:m[k]?=some p):(qxe m k).set k (.int .i64 p.id)=qxe m (k+1):=by
 have hk:=(List.getElem?_eq_some_iff.1 h).1
 unfold qxe
 have hl:(vi ((m.take k).map Pt.id)).length=k:=by simp[vi];omega
 rw[List.set_append_right _ _ (by omega),hl,Nat.sub_self]
 obtain⟨r,hr⟩:∃ r,m.length-k=r+1:=⟨m.length-k-1,by omega⟩
 rw[hr,List.replicate_succ,List.set_cons_zero,List.take_add_one,h]
 simp[vi,show m.length-(k+1)=r by omega]
theorem qxg {m:List Pt} {k:Nat} (hk:k<m.length):(qxe m k)[k]?=some (.int .i64 0):=by
 unfold qxe
 have hl:(vi ((m.take k).map Pt.id)).length=k:=by simp[vi];omega
 rw[List.getElem?_append_right (by omega),hl,Nat.sub_self,List.getElem?_replicate,if_pos (by omega)]
theorem qxh (m:List Pt):qxe m m.length=vi (m.map Pt.id):=by simp[qxe]
end Go.Pel
namespace Go.Proofs.YtfjjdnaggblaaaaGreat
open Go.RowKit Go.Pel
theorem qxi:SlT Tryz.prog 44 3 (.int .i64 0) 1 8:=⟨by kernel_rfl,by kernel_rfl,by kernel_rfl,by decide,by decide⟩
theorem qxj (n:Nat):(madeCells (Value.int .i64 0).cells (n*1)).toList=List.replicate n (.int .i64 0):=by
 apply List.ext_getElem?
 intro k
 by_cases hk:k<n<;>simp[madeCells,Value.cells,Nat.mod_one,List.getElem?_replicate,hk]
set_option maxRecDepth 10000 in
set_option maxHeartbeats 2000000 in
theorem qxk (A:Option Addr) (c:Nat) (l:List Pt) (n d:Int) (w:World) (hn:-9223372036854775808<=n/\n<=9223372036854775807) (hd:-9223372036854775808<=d/\d<=9223372036854775807) (hs:Sl w 3 A l.length c (vp l)) (hn0:A=none->c=0) (hl:l.length<=1000000) :
  Calls Tryz.prog 10 #[.agg #[.slice A l.length c],.agg #[.int .i64 n,.int .i64 d]] w fun e w'=>∃ A' c',e=.returned (.tuple #[.slice A' (qxd l n d).1.length c',.int .i64 (qxd l n d).2])/\∃ x,w'=ext w x/\Own (ext w x) w.heap.size 3 1 A' (qxd l n d).1.length c' (vi (qxd l n d).1):=by
 have q:=Lib.hid (fun W hb=>qxa A c l n d W hn hd (hs.bel (w':=W) hb) hn0)
 have hlm:(qx8 l n d).1.length<=1000000:=by
  unfold qx8;split
  ·simp
  ·split
   ·simp
   ·rw[qwy];exact hl
 unfold qxd
 generalize qx8 l n d=F at q hlm ⊢
 obtain⟨m,v⟩:=F
 simp only at q hlm ⊢
 by_cases h:v=0
 ·subst h
  rw[if_neg (by decide)]
  simp only[List.length_map]
  clear hn hd
  go_enter Tryz.func10,Tryz.ntmps10
  go_wp2_with (first | (refine ql5 qxi (Bel.refl _) (n:=m.length) (by omega) rfl _ _ rfl rfl rfl ?_;rintro g y hg hown;rw[qxj]at hown;have hL2:=own2.sl) | (go_at_call 25;refine (q.out _ (by (try simp only[qdi]);repeat (first | exact Bel.refl _ | assumption | refine qdr ?_ _ | refine qds ?_ _ | refine Bel.ext ?_ _ | refine Bel.alloc ?_ _ | refine Bel.drewN ?_ _))).mono ?_;rintro e W1 ⟨A2,c2,rfl,hx2⟩;have own2:=qoj hx2;have hb0:=qaj (qoi hx2);have hb1:Bel w W1:=(by refine Bel.trans ?_ hb0;exact (by (try simp only[qdi]);repeat (first | exact Bel.refl _ | assumption | refine qdr ?_ _ | refine qds ?_ _ | refine Bel.ext ?_ _ | refine Bel.alloc ?_ _ | refine Bel.drewN ?_ _)));clear hx2 hb0))
  clear own2
  go_loopw [25] (fun i wr=>∃ (k:Nat) (y:Beyond),k<=m.length/\i=.int .i64 k/\wr=ext W1 y/\Own (ext W1 y) W1.heap.size 3 1 (some ⟨g,0,none⟩) m.length m.length (qxe m k)) (fun i _=>m.length-(intOf i).toNat)
  case atStart=>exact⟨0,y,Nat.zero_le _,rfl,rfl,by simpa [qxe,vi] using hown⟩
  case round =>
   obtain⟨k,y3,hk,rfl,rfl,own3⟩:=hrel
   by_cases hlt:k<m.length
   ·obtain⟨p,hp⟩:∃ p,m[k]?=some p:=⟨_,List.getElem?_eq_getElem hlt⟩
    have HS:=Lib.hid (qxf hp)
    have b0:=ql7 own3 (qxg hlt)
    have z0:=ql8 own3 k
    obtain⟨b,o,rfl,hb2⟩:=hL2.at_ (by omega)
    obtain⟨r0,r1,r2⟩:=qmn (hL2.bel (w':=ext W1 y3) (qai _ _)) hp
    have hlt':(k:Int)<(m.length:Int):=by omega
    have hgs:=own3.ats.2
    have hb3:b<(ext W1 y3).heap.size:=by simp[go_sem];omega
    have hb4:Bel W1 (ext W1 y3):=qai _ _
    clear hp hown
    generalize ext W1 y3=V at *
    have hgne:¬ g=V.heap.size:=by omega
    have hgne':¬ V.heap.size=g:=by omega
    go_wp2
    go_roundw
    case rel =>
     obtain⟨y5,hy5,own5⟩:=qlw (w:=W1) ((hb4.setCell (p:=⟨g,k,none⟩) hg (.int .i64 p.id)).alloc (.cells #[.int .i64 p.id,.int .i64 p.a,.int .i64 p.b] 39)) (World.ownsRow.stored own3 k (.int .i64 p.id)).1 ((Bel.refl _).alloc _)
     rw[HS.out]at own5
     exact⟨k+1,y5,by omega,by go_num,hy5,own5⟩
    case measure=>(first | (simp[intOf];done) | (simp[intOf];omega))
   ·obtain rfl:k=m.length:=by omega
    rw[qxh]at own3
    go_wp2
    go_ret2
    exact⟨some ⟨g,0,none⟩,m.length,rfl,qlw (by (try simp only[qdi]);repeat (first | exact Bel.refl _ | assumption | refine qdr ?_ _ | refine qds ?_ _ | refine Bel.ext ?_ _ | refine Bel.alloc ?_ _ | refine Bel.drewN ?_ _)) (own3.base_le hb1.size) (Bel.refl _)⟩
 ·rw[if_pos h]
  have h':(v != 0)=true:=by simpa using h
  clear h hn hd
  go_enter Tryz.func10,Tryz.ntmps10
  go_wp2_with (go_at_call 25;refine (q.out _ (by (try simp only[qdi]);repeat (first | exact Bel.refl _ | assumption | refine qdr ?_ _ | refine qds ?_ _ | refine Bel.ext ?_ _ | refine Bel.alloc ?_ _ | refine Bel.drewN ?_ _))).mono ?_;rintro e _ ⟨A2,c2,rfl,x2,rfl,own2⟩)
  go_ret2
  exact⟨none,0,rfl,qlw (by (try simp only[qdi]);repeat (first | exact Bel.refl _ | assumption | refine qdr ?_ _ | refine qds ?_ _ | refine Bel.ext ?_ _ | refine Bel.alloc ?_ _ | refine Bel.drewN ?_ _)) (Own.nil_ _ _ _ _) (Bel.refl _)⟩
end Go.Proofs.YtfjjdnaggblaaaaGreat