/- The statement CrestParts: the join. -/
import Derived.Test.YtpgpbhjkgciggaaGh
set_option linter.unusedSimpArgs false
set_option linter.unusedVariables false
namespace Go.Proofs.Ytpgpbhjkgciggaa
open Go Go.Tx Go.Pel Go.Proofs.Try Go.ChangeShapes Go.WideShapes Go.ChangeAt Go.RowKit
theorem q2u2 (A:Option Addr) (c:Nat) (l:List Pt) (n m:Int) (B:Option Addr) (e:Nat) (a:List Int) (B2:Option Addr) (e2:Nat) (b:List Int) (w:World) (hs:Sl w 3 A l.length c (vp l)) (hn:A=none→c=0) (hN:-9223372036854775808≤n∧n≤9223372036854775807) (hD:-9223372036854775808≤m∧m≤9223372036854775807) (hsb:Sl w 1 B a.length e (vi a)) (hnb:B=none→e=0) (hsb2:Sl w 1 B2 b.length e2 (vi b)) (hnb2:B2=none→e2=0) :
    Calls Try.prog 4 #[.agg #[.slice A l.length c],.agg #[.int .i64 n,.int .i64 m],.slice B a.length e,.slice B2 b.length e2] w fun e w'=>e=.returned (.bool true)∧∃ x,w'=ext w x:=by
  exact qdq (q2ex 5000) (q2tx 5000 (Nat.le_refl _) q2qc (toPs l) n m (unI a) (unI b) (q2mw hN) (q2mw hD)) rfl w
    (VRs.cons (qk6 hs hn) (VRs.cons (qk8 n m) (VRs.cons (qk5 hsb hnb) (VRs.cons (qk5 hsb2 hnb2) VRs.nil))))
set_option maxRecDepth 100000 in
theorem q2u3 (os:Os) (started:os.Started) (H:Type) (enc:TypeId×Value→H) :
    ReturnsInHanded {} Try.checked os 4 .any (Rows.crestPartsSpec.pre6 enc Try.prog Try.f4 Rows.crestPartsRow.domain false) (Rows.crestPartsSpec.post enc Try.prog Try.f4 false true false false):=by
  refine returnsInHanded_of_change (C:=Try.checked) q2j4 started (by kernel_rfl) Try.func4
    (ChangeSpec.witness6 (enc:=enc) (C:=Try.checked) false ⟨#[],#[.agg #[.slice none 0 0],.agg #[.int .i64 0,.int .i64 0],.slice none 0 0,.slice none 0 0],[]⟩ 8 (by kernel_rfl) (by kernel_rfl) (by kernel_rfl) (by kernel_rfl)) ?_
  intro W base args ds gs before hval0 hW hcnd _
  have hval:∀ (j:Nat) t v,Try.f4.params[j]?=some t→args[j]?=some v→Value.okWide Try.prog W .any base t v:=hval0
  have hW':=hW
  obtain ⟨p,q,hA0,hV,rfl,hfz,hnd⟩:=hW
  have hA:DataW.TrodAll enc Try.prog W 0 (fun _=>true) true Try.f4.params.toList args.toList ds p:=hA0
  rw [Try.params4] at hA hval
  obtain ⟨v0,vs0,d0,ds0,p0,q0,hargs,rfl,rfl,h0,r0⟩:=trodAll_cons hA
  obtain ⟨v1,vs1,d1,ds1,p1,q1,rfl,rfl,rfl,h1,r1⟩:=trodAll_cons r0
  obtain ⟨v2,vs2,d2,ds2,p2,q2,rfl,rfl,rfl,h2,r2⟩:=trodAll_cons r1
  obtain ⟨v3,vs3,d3,ds3,p3,q3,rfl,rfl,rfl,h3,r3⟩:=trodAll_cons r2
  obtain ⟨rfl,rfl,rfl⟩:=trodAll_nil r3
  obtain rfl:args=#[v0,v1,v2,v3]:=by cases args;simp_all
  obtain ⟨rfl,rfl⟩:=trodVars_none hV
  have k0_:=h0
  have lt0:∀ x∈p0,x.block<W.heap.size:=by obtain ⟨m,hm⟩:=k0_;exact DataW.trod_lt m _ _ _ hm
  have k1_:=h1
  have lt1:∀ x∈p1,x.block<W.heap.size:=by obtain ⟨m,hm⟩:=k1_;exact DataW.trod_lt m _ _ _ hm
  have k2_:=h2
  have lt2:∀ x∈p2,x.block<W.heap.size:=by obtain ⟨m,hm⟩:=k2_;exact DataW.trod_lt m _ _ _ hm
  have k3_:=h3
  have lt3:∀ x∈p3,x.block<W.heap.size:=by obtain ⟨m,hm⟩:=k3_;exact DataW.trod_lt m _ _ _ hm
  obtain ⟨cs0,rfl,hsz0⟩:=okWide_struct Try.underlying24 (hval 0 24 v0 rfl rfl)
  obtain ⟨l0⟩:=cs0
  obtain ⟨fuel0,hf0⟩:=h0
  obtain ⟨A0,c0,l0,rfl,hsl0,hnil0,hfit0⟩:=q2jj hf0 (by rw [q2jf] at hsz0;exact hsz0)
  obtain ⟨cs1,rfl,hsz1⟩:=okWide_struct Try.underlying36 (hval 1 36 v1 rfl rfl)
  obtain ⟨l1⟩:=cs1
  obtain ⟨fuel1,hf1⟩:=h1
  obtain ⟨n1,d1,rfl,hfitn1,hfitd1⟩:=q2jl hf1 (by rw [q2jk] at hsz1;exact hsz1)
  obtain ⟨A2,n2,c2,rfl⟩:=okWide_slice Try.underlying37 (hval 2 37 v2 rfl rfl)
  obtain ⟨fuel2,hf2⟩:=h2
  obtain ⟨l2,rfl,hsl2,hfit2,hnil2⟩:=q2u1 hf2
  obtain ⟨A3,n3,c3,rfl⟩:=okWide_slice Try.underlying37 (hval 3 37 v3 rfl rfl)
  obtain ⟨fuel3,hf3⟩:=h3
  obtain ⟨l3,rfl,hsl3,hfit3,hnil3⟩:=q2u1 hf3
  clear hA0 hval0
  refine (q2u2 A0 c0 l0 n1 d1 A2 c2 l2 A3 c3 l3 _ hsl0 hnil0 hfitn1 hfitd1 hsl2 hnil2 hsl3 hnil3).mono fun e W' ⟨he,hx⟩=>?_
  have bel:Below W.heap.size W W':=(q9k hx).toBelow
  subst he
  exact ⟨_,rfl,_,_,_,[],_,[],hW',trodAll_mk1 (shut_bool Try.underlying4 _),(trodAll_cons_mk (Below.trod q2j5 (by kernel_rfl) (of_decide_eq_true (by kernel_rfl)) k0_ bel lt0) (trodAll_cons_mk (Below.trod q2j5 (by kernel_rfl) (of_decide_eq_true (by kernel_rfl)) k1_ bel lt1) (trodAll_cons_mk (Below.trod q2j5 (by kernel_rfl) (of_decide_eq_true (by kernel_rfl)) k2_ bel lt2) (trodAll_cons_mk (Below.trod q2j5 (by kernel_rfl) (of_decide_eq_true (by kernel_rfl)) k3_ bel lt3) trodAll_mk0)))),rfl,bel.frame _,fun h=>by cases h⟩
theorem q2u4:Rows.crestPartsRow.holds Try.pinned (OpenSpec.ofChange Rows.crestPartsSpec) :=
  OpenClaim.holds_of_wide 4 Try.f4 rfl rfl rfl rfl rfl rfl rfl ⟨rfl,rfl,rfl,rfl,rfl⟩ rfl rfl rfl rfl rfl (by kernel_rfl) Try.func4 (by kernel_rfl)
    (of_decide_eq_true (by kernel_rfl)) (by unfold Func.isWrapper;rw [if_neg (of_decide_eq_false (by kernel_rfl))];exact ⟨rfl,rfl⟩)
    (fun os started H enc _=>q2u3 os started H enc)
theorem crestParts_holds:Rows.CrestPartsSaid:=q2u4
end Go.Proofs.Ytpgpbhjkgciggaa
