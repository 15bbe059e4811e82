/- The statement CartesParts: the join. -/
import Derived.Test.YtoakhncbmpdacaaGo
set_option linter.unusedSimpArgs false
set_option linter.unusedVariables false
namespace Go.Proofs.Ytoakhncbmpdacaa
open Go Go.Tx Go.Pel Go.Proofs.Try Go.ChangeShapes Go.WideShapes Go.ChangeAt Go.RowKit
theorem q3uw (P:List N3) {n dd:Int} (hn:i64B n=true) (hdd:i64B dd=true) (id:Int):∃ d,q3jt d ((P,()),(n,dd,()),(id,()),())=some true:=⟨5000,q3uv 5000 (Nat.le_refl _) q3os P hn hdd id⟩
theorem q3ux (A:Option Addr) (c:Nat) (l:List Pt) (n m:Int) (i:Int) (w:World) (hs:Sl w 3 A l.length c (vp l)) (hn:A=none→c=0) (hN:-9223372036854775808≤n∧n≤9223372036854775807) (hD:-9223372036854775808≤m∧m≤9223372036854775807) :
    Calls Try.prog 6 #[.agg #[.slice A l.length c],.agg #[.int .i64 n,.int .i64 m],.int .i64 i] w fun e w'=>e=.returned (.bool true)∧∃ x,w'=ext w x:=by
  obtain ⟨d,hd⟩:=q3uw (toPs l) (q3no hN) (q3no hD) i
  exact qe5 (q3ju d) hd rfl w
    (VRs.cons (qko hs hn) (VRs.cons (qkq n m) (VRs.cons (.int _ _) VRs.nil)))
set_option maxRecDepth 100000 in
theorem q3uy (os:Os) (started:os.Started) (H:Type) (enc:TypeId×Value→H) :
    ReturnsInHanded {} Try.checked os 6 .any (Rows.cartesPartsSpec.pre6 enc Try.prog Try.f6 Rows.cartesPartsRow.domain false) (Rows.cartesPartsSpec.post enc Try.prog Try.f6 false true false false):=by
  refine returnsInHanded_of_change (C:=Try.checked) q33h started (by kernel_rfl) Try.func6
    (ChangeSpec.witness6 (enc:=enc) (C:=Try.checked) false ⟨#[],#[.agg #[.slice none 0 0],.agg #[.int .i64 0,.int .i64 0],.int .i64 0],[]⟩ 8 (by kernel_rfl) (by kernel_rfl) (by kernel_rfl) (by kernel_rfl)) ?_
  intro W base args ds gs before hval0 hW hcnd _
  have hval:∀ (j:Nat) t v,Try.f6.params[j]?=some t→args[j]?=some v→Value.okWide Try.prog W .any base t v:=hval0
  have hW':=hW
  obtain ⟨p,q,hA0,hV,rfl,hfz,hnd⟩:=hW
  have hA:DataW.TrodAll enc Try.prog W 0 (fun _=>true) true Try.f6.params.toList args.toList ds p:=hA0
  rw [Try.params6] at hA hval
  obtain ⟨v0,vs0,d0,ds0,p0,q0,hargs,rfl,rfl,h0,r0⟩:=trodAll_cons hA
  obtain ⟨v1,vs1,d1,ds1,p1,q1,rfl,rfl,rfl,h1,r1⟩:=trodAll_cons r0
  obtain ⟨v2,vs2,d2,ds2,p2,q2,rfl,rfl,rfl,h2,r2⟩:=trodAll_cons r1
  obtain ⟨rfl,rfl,rfl⟩:=trodAll_nil r2
  obtain rfl:args=#[v0,v1,v2]:=by cases args;simp_all
  obtain ⟨rfl,rfl⟩:=trodVars_none hV
  have k0_:=h0
  have lt0:∀ x∈p0,x.block<W.heap.size:=by obtain ⟨m,hm⟩:=k0_;exact DataW.trod_lt m _ _ _ hm
  have k1_:=h1
  have lt1:∀ x∈p1,x.block<W.heap.size:=by obtain ⟨m,hm⟩:=k1_;exact DataW.trod_lt m _ _ _ hm
  have k2_:=h2
  have lt2:∀ x∈p2,x.block<W.heap.size:=by obtain ⟨m,hm⟩:=k2_;exact DataW.trod_lt m _ _ _ hm
  obtain ⟨cs0,rfl,hsz0⟩:=okWide_struct Try.underlying24 (hval 0 24 v0 rfl rfl)
  obtain ⟨l0⟩:=cs0
  obtain ⟨fuel0,hf0⟩:=h0
  obtain ⟨A0,c0,l0,rfl,hsl0,hnil0,hfit0⟩:=q33w hf0 (by rw [q33s] at hsz0;exact hsz0)
  obtain ⟨cs1,rfl,hsz1⟩:=okWide_struct Try.underlying26 (hval 1 26 v1 rfl rfl)
  obtain ⟨l1⟩:=cs1
  obtain ⟨fuel1,hf1⟩:=h1
  obtain ⟨n1,d1,rfl,hfitn1,hfitd1⟩:=q33y hf1 (by rw [q33x] at hsz1;exact hsz1)
  have hw2:=hval 2 3 v2 rfl rfl
  obtain ⟨i2,rfl⟩:=okWide_int Try.underlying3 hw2
  clear hA0 hval0
  refine (q3ux A0 c0 l0 n1 d1 i2 _ hsl0 hnil0 hfitn1 hfitd1).mono fun e W' ⟨he,hx⟩=>?_
  have bel:Below W.heap.size W W':=(q9z hx).toBelow
  subst he
  exact ⟨_,rfl,_,_,_,[],_,[],hW',trodAll_mk1 (shut_bool Try.underlying4 _),(trodAll_cons_mk (Below.trod q33i (by kernel_rfl) (of_decide_eq_true (by kernel_rfl)) k0_ bel lt0) (trodAll_cons_mk (Below.trod q33i (by kernel_rfl) (of_decide_eq_true (by kernel_rfl)) k1_ bel lt1) (trodAll_cons_mk (Below.trod q33i (by kernel_rfl) (of_decide_eq_true (by kernel_rfl)) k2_ bel lt2) trodAll_mk0))),rfl,bel.frame _,fun h=>by cases h⟩
theorem q3uz:Rows.cartesPartsRow.holds Try.pinned (OpenSpec.ofChange Rows.cartesPartsSpec) :=
  OpenClaim.holds_of_wide 6 Try.f6 rfl rfl rfl rfl rfl rfl rfl ⟨rfl,rfl,rfl,rfl,rfl⟩ rfl rfl rfl rfl rfl (by kernel_rfl) Try.func6 (by kernel_rfl)
    (of_decide_eq_true (by kernel_rfl)) (by unfold Func.isWrapper;rw [if_neg (of_decide_eq_false (by kernel_rfl))];exact ⟨rfl,rfl⟩)
    (fun os started H enc _=>q3uy os started H enc)
theorem cartesParts_holds:Rows.CartesPartsSaid:=q3uz
end Go.Proofs.Ytoakhncbmpdacaa
