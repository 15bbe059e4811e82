/- The statement TopModel: slots, agendas, certificates, the clock, brackets, trees and the plain model agree. Nothing is supposed. -/
import Derived.Test.YtfjjdnaggblaaaaGreatGi
set_option linter.unusedSimpArgs false
set_option linter.unusedVariables false
namespace Go.Proofs.YtfjjdnaggblaaaaGreat
open Go Go.Tx Go.Pel Go.Proofs.Tryz Go.ChangeShapes Go.WideShapes Go.ChangeAt Go.RowKit
theorem q2mx (n m:Int) (A:Option Addr) (c:Nat) (l:List Pt) (n' m':Int) (w:World) (hs:Sl w 3 A l.length c (vp l)) (hz:A=none->c=0) (hn:-9223372036854775808<=n/\n<=9223372036854775807) (hm:-9223372036854775808<=m/\m<=9223372036854775807) (hn':-9223372036854775808<=n'/\n'<=9223372036854775807) (hm':-9223372036854775808<=m'/\m'<=9223372036854775807) :
    Calls Tryz.prog 3 #[.agg #[.int .i64 n,.int .i64 m,.slice A l.length c],.agg #[.int .i64 n',.int .i64 m']] w fun e w'=>e=.returned (.bool true)/\∃ x,w'=ext w x :=
  qep (q2lm 5001) (q2m4 5001 (by omega) (toPs l) n m n' m' (q2mt hn) (q2mt hm) (q2mt hn') (q2mt hm')) rfl w
    (VRs.cons (q2mw hs hz) (VRs.cons (qpt n' m') VRs.nil))
set_option maxRecDepth 100000 in
theorem q2my (os:Os) (started:os.Started) (H:Type) (enc:TypeId×Value->H) :
    ReturnsInHanded {} Tryz.checked os 3 .any (Rows.topModelSpec.pre6 enc Tryz.prog Tryz.f3 Rows.topModelRow.domain false) (Rows.topModelSpec.post enc Tryz.prog Tryz.f3 false true false false):=by
  refine returnsInHanded_of_change (C:=Tryz.checked) q2mb started (by kernel_rfl) Tryz.func3
    (ChangeSpec.witness6 (enc:=enc) (C:=Tryz.checked) false ⟨#[],#[.agg #[.int .i64 0,.int .i64 0,.slice none 0 0],.agg #[.int .i64 0,.int .i64 0]],[]⟩ 8 (by kernel_rfl) (by kernel_rfl) (by kernel_rfl) (by kernel_rfl)) ?_
  intro W base args ds gs before hval0 hW hcnd _
  have hval:∀ (j:Nat) t v,Tryz.f3.params[j]?=some t->args[j]?=some v->Value.okWide Tryz.prog W .any base t v:=hval0
  have hW':=hW
  obtain⟨p,q,hA0,hV,rfl,hfz,hnd⟩:=hW
  have hA:DataW.TrodAll enc Tryz.prog W 0 (fun _=>true) true Tryz.f3.params.toList args.toList ds p:=hA0
  rw[Tryz.params3]at hA hval
  obtain⟨v0,vs0,d0,ds0,p0,q0,hargs,rfl,rfl,h0,r0⟩:=trodAll_cons hA
  obtain⟨v1,vs1,d1,ds1,p1,q1,rfl,rfl,rfl,h1,r1⟩:=trodAll_cons r0
  obtain⟨rfl,rfl,rfl⟩:=trodAll_nil r1
  obtain rfl:args=#[v0,v1]:=by cases args;simp_all
  obtain⟨rfl,rfl⟩:=trodVars_none hV
  have k0_:=h0
  have lt0:∀ x∈p0,x.block<W.heap.size:=by obtain⟨m,hm⟩:=k0_;exact DataW.trod_lt m _ _ _ hm
  have k1_:=h1
  have lt1:∀ x∈p1,x.block<W.heap.size:=by obtain⟨m,hm⟩:=k1_;exact DataW.trod_lt m _ _ _ hm
  obtain⟨cs0,rfl,hsz0⟩:=okWide_struct Tryz.underlying28 (hval 0 28 v0 rfl rfl)
  obtain⟨l0⟩:=cs0
  obtain⟨fuel0,hf0⟩:=h0
  obtain⟨n0,d0,A0,c0,l0,rfl,hfitn0,hfitd0,hsl0,hnil0,hfit0⟩:=q2mv hf0 (by rw[q2mu]at hsz0;exact hsz0)
  obtain⟨cs1,rfl,hsz1⟩:=okWide_struct Tryz.underlying23 (hval 1 23 v1 rfl rfl)
  obtain⟨l1⟩:=cs1
  obtain⟨fuel1,hf1⟩:=h1
  obtain⟨n1,d1,rfl,hfitn1,hfitd1⟩:=q2ms hf1 (by rw[q2mr]at hsz1;exact hsz1)
  clear hA0 hval0
  refine (q2mx n0 d0 A0 c0 l0 n1 d1 _ hsl0 hnil0 hfitn0 hfitd0 hfitn1 hfitd1).mono fun e W' ⟨he,hx⟩=>?_
  have bel:Below W.heap.size W W':=(qaj hx).toBelow
  subst he
  exact⟨_,rfl,_,_,_,[],_,[],hW',trodAll_mk1 (shut_bool Tryz.underlying4 _),(trodAll_cons_mk (Below.trod q2mc (by kernel_rfl) (of_decide_eq_true (by kernel_rfl)) k0_ bel lt0) (trodAll_cons_mk (Below.trod q2mc (by kernel_rfl) (of_decide_eq_true (by kernel_rfl)) k1_ bel lt1) trodAll_mk0)),rfl,bel.frame _,fun h=>by cases h⟩
theorem q2mz:Rows.topModelRow.holds Tryz.pinned (OpenSpec.ofChange Rows.topModelSpec) :=
  OpenClaim.holds_of_wide 3 Tryz.f3 rfl rfl rfl rfl rfl rfl rfl ⟨rfl,rfl,rfl,rfl,rfl⟩ rfl rfl rfl rfl rfl (by kernel_rfl) Tryz.func3 (by kernel_rfl)
    (of_decide_eq_true (by kernel_rfl)) (by unfold Func.isWrapper;rw[if_neg (of_decide_eq_false (by kernel_rfl))];exact⟨rfl,rfl⟩)
    (fun os started H enc _=>q2my os started H enc)
theorem topModel_holds:Rows.TopModelSaid:=q2mz
end Go.Proofs.YtfjjdnaggblaaaaGreat