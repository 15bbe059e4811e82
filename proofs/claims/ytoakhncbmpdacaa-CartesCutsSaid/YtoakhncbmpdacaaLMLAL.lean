/- The statement CartesCuts: the join. -/
import Derived.Test.YtoakhncbmpdacaaGn
set_option linter.unusedSimpArgs false
set_option linter.unusedVariables false
namespace Go.Proofs.Ytoakhncbmpdacaa
open Go Go.Tx Go.Pel Go.Proofs.Try Go.ChangeShapes Go.WideShapes Go.ChangeAt Go.RowKit
theorem q3ue (A:Option Addr) (c:Nat) (l:List Pt) (n m:Int) (r1:Int) (B:Option Addr) (e:Nat) (x:List Pt) (r2:Int) (B2:Option Addr) (e2:Nat) (y:List Pt) (i:Int) (w:World) (hs:Sl w 3 A l.length c (vp l)) (hn:A=none→c=0) (hN:-9223372036854775808≤n∧n≤9223372036854775807) (hD:-9223372036854775808≤m∧m≤9223372036854775807)
    (hx:Sl w 3 B x.length e (vp x)) (hxn:B=none→e=0) (hy:Sl w 3 B2 y.length e2 (vp y)) (hyn:B2=none→e2=0) :
    Calls Try.prog 4 #[.agg #[.int .i64 r1,.slice B x.length e],.agg #[.int .i64 r2,.slice B2 y.length e2],.int .i64 i,.agg #[.slice A l.length c],.agg #[.int .i64 n,.int .i64 m]] w fun e w'=>e=.returned (.bool true)∧∃ x,w'=ext w x:=by
  obtain ⟨d,hd⟩:∃ d,5000≤d:=⟨5000,Nat.le_refl _⟩
  exact qe5 (q3cu d) (q3ud d hd r1 (toPs x) r2 (toPs y) i (toPs l) (q3no hN) (q3no hD)) rfl w
    (VRs.cons (q3nv hx hxn) (VRs.cons (q3nv hy hyn) (VRs.cons (.int _ _) (VRs.cons (qko hs hn) (VRs.cons (qkq n m) VRs.nil)))))
set_option maxRecDepth 100000 in
theorem q3uf (os:Os) (started:os.Started) (H:Type) (enc:TypeId×Value→H) :
    ReturnsInHanded {} Try.checked os 4 .any (Rows.cartesCutsSpec.pre6 enc Try.prog Try.f4 Rows.cartesCutsRow.domain false) (Rows.cartesCutsSpec.post enc Try.prog Try.f4 false true false false):=by
  refine returnsInHanded_of_change (C:=Try.checked) q33h started (by kernel_rfl) Try.func4
    (ChangeSpec.witness6 (enc:=enc) (C:=Try.checked) false ⟨#[],#[.agg #[.int .i64 0,.slice none 0 0],.agg #[.int .i64 0,.slice none 0 0],.int .i64 0,.agg #[.slice none 0 0],.agg #[.int .i64 0,.int .i64 0]],[]⟩ 8 (by kernel_rfl) (by kernel_rfl) (by kernel_rfl) (by kernel_rfl)) ?_
  intro W base args ds gs before hval0 hW hcnd _
  have hval:∀ (j:Nat) t v,Try.f4.params[j]?=some t→args[j]?=some v→Value.okWide Try.prog W .any base t v:=hval0
  have hW':=hW
  obtain ⟨p,q,hA0,hV,rfl,hfz,hnd⟩:=hW
  have hA:DataW.TrodAll enc Try.prog W 0 (fun _=>true) true Try.f4.params.toList args.toList ds p:=hA0
  rw [Try.params4] at hA hval
  obtain ⟨v0,vs0,d0,ds0,p0,q0,hargs,rfl,rfl,h0,r0⟩:=trodAll_cons hA
  obtain ⟨v1,vs1,d1,ds1,p1,q1,rfl,rfl,rfl,h1,r1⟩:=trodAll_cons r0
  obtain ⟨v2,vs2,d2,ds2,p2,q2,rfl,rfl,rfl,h2,r2⟩:=trodAll_cons r1
  obtain ⟨v3,vs3,d3,ds3,p3,q3,rfl,rfl,rfl,h3,r3⟩:=trodAll_cons r2
  obtain ⟨v4,vs4,d4,ds4,p4,q4,rfl,rfl,rfl,h4,r4⟩:=trodAll_cons r3
  obtain ⟨rfl,rfl,rfl⟩:=trodAll_nil r4
  obtain rfl:args=#[v0,v1,v2,v3,v4]:=by cases args;simp_all
  obtain ⟨rfl,rfl⟩:=trodVars_none hV
  have k0_:=h0
  have lt0:∀ x∈p0,x.block<W.heap.size:=by obtain ⟨m,hm⟩:=k0_;exact DataW.trod_lt m _ _ _ hm
  have k1_:=h1
  have lt1:∀ x∈p1,x.block<W.heap.size:=by obtain ⟨m,hm⟩:=k1_;exact DataW.trod_lt m _ _ _ hm
  have k2_:=h2
  have lt2:∀ x∈p2,x.block<W.heap.size:=by obtain ⟨m,hm⟩:=k2_;exact DataW.trod_lt m _ _ _ hm
  have k3_:=h3
  have lt3:∀ x∈p3,x.block<W.heap.size:=by obtain ⟨m,hm⟩:=k3_;exact DataW.trod_lt m _ _ _ hm
  have k4_:=h4
  have lt4:∀ x∈p4,x.block<W.heap.size:=by obtain ⟨m,hm⟩:=k4_;exact DataW.trod_lt m _ _ _ hm
  obtain ⟨cs0,rfl,hsz0⟩:=okWide_struct Try.underlying29 (hval 0 29 v0 rfl rfl)
  obtain ⟨l0⟩:=cs0
  obtain ⟨fuel0,hf0⟩:=h0
  obtain ⟨root0,A0,c0,l0,rfl,hsl0,hnil0,hfit0⟩:=q3nu hf0 (by rw [q3nq] at hsz0;exact hsz0)
  obtain ⟨cs1,rfl,hsz1⟩:=okWide_struct Try.underlying29 (hval 1 29 v1 rfl rfl)
  obtain ⟨l1⟩:=cs1
  obtain ⟨fuel1,hf1⟩:=h1
  obtain ⟨root1,A1,c1,l1,rfl,hsl1,hnil1,hfit1⟩:=q3nu hf1 (by rw [q3nq] at hsz1;exact hsz1)
  have hw2:=hval 2 3 v2 rfl rfl
  obtain ⟨i2,rfl⟩:=okWide_int Try.underlying3 hw2
  obtain ⟨cs3,rfl,hsz3⟩:=okWide_struct Try.underlying24 (hval 3 24 v3 rfl rfl)
  obtain ⟨l3⟩:=cs3
  obtain ⟨fuel3,hf3⟩:=h3
  obtain ⟨A3,c3,l3,rfl,hsl3,hnil3,hfit3⟩:=q33w hf3 (by rw [q33s] at hsz3;exact hsz3)
  obtain ⟨cs4,rfl,hsz4⟩:=okWide_struct Try.underlying26 (hval 4 26 v4 rfl rfl)
  obtain ⟨l4⟩:=cs4
  obtain ⟨fuel4,hf4⟩:=h4
  obtain ⟨n4,d4,rfl,hfitn4,hfitd4⟩:=q33y hf4 (by rw [q33x] at hsz4;exact hsz4)
  clear hA0 hval0
  refine (q3ue A3 c3 l3 n4 d4 root0 A0 c0 l0 root1 A1 c1 l1 i2 _ hsl3 hnil3 hfitn4 hfitd4 hsl0 hnil0 hsl1 hnil1).mono fun e W' ⟨he,hx⟩=>?_
  have bel:Below W.heap.size W W':=(q9z hx).toBelow
  subst he
  exact ⟨_,rfl,_,_,_,[],_,[],hW',trodAll_mk1 (shut_bool Try.underlying4 _),(trodAll_cons_mk (Below.trod q33i (by kernel_rfl) (of_decide_eq_true (by kernel_rfl)) k0_ bel lt0) (trodAll_cons_mk (Below.trod q33i (by kernel_rfl) (of_decide_eq_true (by kernel_rfl)) k1_ bel lt1) (trodAll_cons_mk (Below.trod q33i (by kernel_rfl) (of_decide_eq_true (by kernel_rfl)) k2_ bel lt2) (trodAll_cons_mk (Below.trod q33i (by kernel_rfl) (of_decide_eq_true (by kernel_rfl)) k3_ bel lt3) (trodAll_cons_mk (Below.trod q33i (by kernel_rfl) (of_decide_eq_true (by kernel_rfl)) k4_ bel lt4) trodAll_mk0))))),rfl,bel.frame _,fun h=>by cases h⟩
theorem q3ug:Rows.cartesCutsRow.holds Try.pinned (OpenSpec.ofChange Rows.cartesCutsSpec) :=
  OpenClaim.holds_of_wide 4 Try.f4 rfl rfl rfl rfl rfl rfl rfl ⟨rfl,rfl,rfl,rfl,rfl⟩ rfl rfl rfl rfl rfl (by kernel_rfl) Try.func4 (by kernel_rfl)
    (of_decide_eq_true (by kernel_rfl)) (by unfold Func.isWrapper;rw [if_neg (of_decide_eq_false (by kernel_rfl))];exact ⟨rfl,rfl⟩)
    (fun os started H enc _=>q3uf os started H enc)
theorem cartesCuts_holds:Rows.CartesCutsSaid:=q3ug
end Go.Proofs.Ytoakhncbmpdacaa
