/- The statement GroupGrows: the join. -/
import Derived.Test.YtbjpmdhdoggobaaGreatGm
set_option linter.unusedSimpArgs false
set_option linter.unusedVariables false
namespace Go.Proofs.YtbjpmdhdoggobaaGreat
open Go Go.Tx Go.Pel Go.Proofs.Tryz Go.ChangeShapes Go.WideShapes Go.ChangeAt Go.RowKit
theorem q3uz (A:Option Addr) (c:Nat) (l:List Pt) (n m n' m' n2 m2:Int) (w:World) (hs:Sl w 3 A l.length c (vp l)) (hz:A=none→c=0) (hn:-9223372036854775808≤n∧n≤9223372036854775807) (hm:-9223372036854775808≤m∧m≤9223372036854775807) (hn':-9223372036854775808≤n'∧n'≤9223372036854775807) (hm':-9223372036854775808≤m'∧m'≤9223372036854775807) (hn2:-9223372036854775808≤n2∧n2≤9223372036854775807) (hm2:-9223372036854775808≤m2∧m2≤9223372036854775807) :
    Calls Tryz.prog 8 #[.agg #[.slice A l.length c],.agg #[.int .i64 n,.int .i64 m],.agg #[.int .i64 n',.int .i64 m'],.agg #[.int .i64 n2,.int .i64 m2]] w fun e w'=>e=.returned (.bool true)∧∃ x,w'=ext w x :=
  qdf (q3bm 5001) (q3uv 5001 (by omega) q3tr (toPs l) n m n' m' n2 m2 (q3g1 hn) (q3g1 hm) (q3g1 hn') (q3g1 hm') (q3g1 hn2) (q3g1 hm2)) rfl w
    (VRs.cons (qjs hs hz) (VRs.cons (qju n m) (VRs.cons (qju n' m') (VRs.cons (qju n2 m2) VRs.nil))))
set_option maxRecDepth 100000 in
theorem q3v0 (os:Os) (started:os.Started) (H:Type) (enc:TypeId×Value→H) :
    ReturnsInHanded {} Tryz.checked os 8 .any (Rows.groupGrowsSpec.pre6 enc Tryz.prog Tryz.f8 Rows.groupGrowsRow.domain false) (Rows.groupGrowsSpec.post enc Tryz.prog Tryz.f8 false true false false):=by
  refine returnsInHanded_of_change (C:=Tryz.checked) q3ou started (by kernel_rfl) Tryz.func8
    (ChangeSpec.witness6 (enc:=enc) (C:=Tryz.checked) false ⟨#[],#[.agg #[.slice none 0 0],.agg #[.int .i64 0,.int .i64 0],.agg #[.int .i64 0,.int .i64 0],.agg #[.int .i64 0,.int .i64 0]],[]⟩ 8 (by kernel_rfl) (by kernel_rfl) (by kernel_rfl) (by kernel_rfl)) ?_
  intro W base args ds gs before hval0 hW hcnd _
  have hval:∀ (j:Nat) t v,Tryz.f8.params[j]?=some t→args[j]?=some v→Value.okWide Tryz.prog W .any base t v:=hval0
  have hW':=hW
  obtain ⟨p,q,hA0,hV,rfl,hfz,hnd⟩:=hW
  have hA:DataW.TrodAll enc Tryz.prog W 0 (fun _=>true) true Tryz.f8.params.toList args.toList ds p:=hA0
  rw [Tryz.params8] at hA hval
  obtain ⟨v0,vs0,d0,ds0,p0,q0,hargs,rfl,rfl,h0,r0⟩:=trodAll_cons hA
  obtain ⟨v1,vs1,d1,ds1,p1,q1,rfl,rfl,rfl,h1,r1⟩:=trodAll_cons r0
  obtain ⟨v2,vs2,d2,ds2,p2,q2,rfl,rfl,rfl,h2,r2⟩:=trodAll_cons r1
  obtain ⟨v3,vs3,d3,ds3,p3,q3,rfl,rfl,rfl,h3,r3⟩:=trodAll_cons r2
  obtain ⟨rfl,rfl,rfl⟩:=trodAll_nil r3
  obtain rfl:args=#[v0,v1,v2,v3]:=by cases args;simp_all
  obtain ⟨rfl,rfl⟩:=trodVars_none hV
  have k0_:=h0
  have lt0:∀ x∈p0,x.block<W.heap.size:=by obtain ⟨m,hm⟩:=k0_;exact DataW.trod_lt m _ _ _ hm
  have k1_:=h1
  have lt1:∀ x∈p1,x.block<W.heap.size:=by obtain ⟨m,hm⟩:=k1_;exact DataW.trod_lt m _ _ _ hm
  have k2_:=h2
  have lt2:∀ x∈p2,x.block<W.heap.size:=by obtain ⟨m,hm⟩:=k2_;exact DataW.trod_lt m _ _ _ hm
  have k3_:=h3
  have lt3:∀ x∈p3,x.block<W.heap.size:=by obtain ⟨m,hm⟩:=k3_;exact DataW.trod_lt m _ _ _ hm
  obtain ⟨cs0,rfl,hsz0⟩:=okWide_struct Tryz.underlying24 (hval 0 24 v0 rfl rfl)
  obtain ⟨l0⟩:=cs0
  obtain ⟨fuel0,hf0⟩:=h0
  obtain ⟨A0,c0,l0,rfl,hsl0,hnil0,hfit0⟩:=q3p9 hf0 (by rw [q3p5] at hsz0;exact hsz0)
  obtain ⟨cs1,rfl,hsz1⟩:=okWide_struct Tryz.underlying26 (hval 1 26 v1 rfl rfl)
  obtain ⟨l1⟩:=cs1
  obtain ⟨fuel1,hf1⟩:=h1
  obtain ⟨n1,d1,rfl,hfitn1,hfitd1⟩:=q3pb hf1 (by rw [q3pa] at hsz1;exact hsz1)
  obtain ⟨cs2,rfl,hsz2⟩:=okWide_struct Tryz.underlying26 (hval 2 26 v2 rfl rfl)
  obtain ⟨l2⟩:=cs2
  obtain ⟨fuel2,hf2⟩:=h2
  obtain ⟨n2,d2,rfl,hfitn2,hfitd2⟩:=q3pb hf2 (by rw [q3pa] at hsz2;exact hsz2)
  obtain ⟨cs3,rfl,hsz3⟩:=okWide_struct Tryz.underlying26 (hval 3 26 v3 rfl rfl)
  obtain ⟨l3⟩:=cs3
  obtain ⟨fuel3,hf3⟩:=h3
  obtain ⟨n3,d3,rfl,hfitn3,hfitd3⟩:=q3pb hf3 (by rw [q3pa] at hsz3;exact hsz3)
  clear hA0 hval0
  refine (q3uz A0 c0 l0 n1 d1 n2 d2 n3 d3 _ hsl0 hnil0 hfitn1 hfitd1 hfitn2 hfitd2 hfitn3 hfitd3).mono fun e W' ⟨he,hx⟩=>?_
  have bel:Below W.heap.size W W':=(q99 hx).toBelow
  subst he
  exact ⟨_,rfl,_,_,_,[],_,[],hW',trodAll_mk1 (shut_bool Tryz.underlying4 _),(trodAll_cons_mk (Below.trod q3ov (by kernel_rfl) (of_decide_eq_true (by kernel_rfl)) k0_ bel lt0) (trodAll_cons_mk (Below.trod q3ov (by kernel_rfl) (of_decide_eq_true (by kernel_rfl)) k1_ bel lt1) (trodAll_cons_mk (Below.trod q3ov (by kernel_rfl) (of_decide_eq_true (by kernel_rfl)) k2_ bel lt2) (trodAll_cons_mk (Below.trod q3ov (by kernel_rfl) (of_decide_eq_true (by kernel_rfl)) k3_ bel lt3) trodAll_mk0)))),rfl,bel.frame _,fun h=>by cases h⟩
theorem q3v1:Rows.groupGrowsRow.holds Tryz.pinned (OpenSpec.ofChange Rows.groupGrowsSpec) :=
  OpenClaim.holds_of_wide 8 Tryz.f8 rfl rfl rfl rfl rfl rfl rfl ⟨rfl,rfl,rfl,rfl,rfl⟩ rfl rfl rfl rfl rfl (by kernel_rfl) Tryz.func8 (by kernel_rfl)
    (of_decide_eq_true (by kernel_rfl)) (by unfold Func.isWrapper;rw [if_neg (of_decide_eq_false (by kernel_rfl))];exact ⟨rfl,rfl⟩)
    (fun os started H enc _=>q3v0 os started H enc)
theorem groupGrows_holds:Rows.GroupGrowsSaid:=q3v1
end Go.Proofs.YtbjpmdhdoggobaaGreat
