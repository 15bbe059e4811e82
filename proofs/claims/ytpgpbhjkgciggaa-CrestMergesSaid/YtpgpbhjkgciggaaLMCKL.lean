/- The statement CrestMerges: the join. -/
import Derived.Test.YtpgpbhjkgciggaaGg
set_option linter.unusedSimpArgs false
set_option linter.unusedVariables false
namespace Go.Proofs.Ytpgpbhjkgciggaa
open Go Go.Tx Go.Pel Go.Proofs.Try Go.ChangeShapes Go.WideShapes Go.ChangeAt Go.RowKit
theorem q2t6 {l:List Pt} (h:∀ p∈l,p.Fits):bdL (toPs l):=fun x hx=>by
  obtain ⟨p,hp,rfl⟩:=List.mem_map.1 hx
  have:=h p hp
  exact ⟨q2mw this.1,q2mw this.2⟩
theorem q2t7 (A:Option Addr) (c:Nat) (l:List Pt) (B:Option Addr) (e:Nat) (a:List Pt) (B2:Option Addr) (e2:Nat) (b:List Pt) (w:World) (hs:Sl w 3 A l.length c (vp l)) (hn:A=none→c=0) (hsb:Sl w 3 B a.length e (vp a)) (hnb:B=none→e=0) (hfa:∀ p∈a,p.Fits) (hsb2:Sl w 3 B2 b.length e2 (vp b)) (hnb2:B2=none→e2=0) (hfb:∀ p∈b,p.Fits) :
    Calls Try.prog 3 #[.agg #[.slice A l.length c],.slice B a.length e,.slice B2 b.length e2] w fun e w'=>e=.returned (.bool true)∧∃ x,w'=ext w x:=by
  obtain ⟨d,hd⟩:∃ d,5000≤d:=⟨5000,Nat.le_refl _⟩
  exact qdq (q28p d) (q2t2 d hd (toPs l) (toPs a) (toPs b) (q2t6 hfa) (q2t6 hfb)) rfl w
    (VRs.cons (qk6 hs hn) (VRs.cons (qk1 (τ:=RP) rfl (qk2 a) (qk4 a) hsb hnb) (VRs.cons (qk1 (τ:=RP) rfl (qk2 b) (qk4 b) hsb2 hnb2) VRs.nil)))
set_option maxRecDepth 100000 in
theorem q2t8 (os:Os) (started:os.Started) (H:Type) (enc:TypeId×Value→H) :
    ReturnsInHanded {} Try.checked os 3 .any (Rows.crestMergesSpec.pre6 enc Try.prog Try.f3 Rows.crestMergesRow.domain false) (Rows.crestMergesSpec.post enc Try.prog Try.f3 false true false false):=by
  refine returnsInHanded_of_change (C:=Try.checked) q2j4 started (by kernel_rfl) Try.func3
    (ChangeSpec.witness6 (enc:=enc) (C:=Try.checked) false ⟨#[],#[.agg #[.slice none 0 0],.slice none 0 0,.slice none 0 0],[]⟩ 8 (by kernel_rfl) (by kernel_rfl) (by kernel_rfl) (by kernel_rfl)) ?_
  intro W base args ds gs before hval0 hW hcnd _
  have hval:∀ (j:Nat) t v,Try.f3.params[j]?=some t→args[j]?=some v→Value.okWide Try.prog W .any base t v:=hval0
  have hW':=hW
  obtain ⟨p,q,hA0,hV,rfl,hfz,hnd⟩:=hW
  have hA:DataW.TrodAll enc Try.prog W 0 (fun _=>true) true Try.f3.params.toList args.toList ds p:=hA0
  rw [Try.params3] at hA hval
  obtain ⟨v0,vs0,d0,ds0,p0,q0,hargs,rfl,rfl,h0,r0⟩:=trodAll_cons hA
  obtain ⟨v1,vs1,d1,ds1,p1,q1,rfl,rfl,rfl,h1,r1⟩:=trodAll_cons r0
  obtain ⟨v2,vs2,d2,ds2,p2,q2,rfl,rfl,rfl,h2,r2⟩:=trodAll_cons r1
  obtain ⟨rfl,rfl,rfl⟩:=trodAll_nil r2
  obtain rfl:args=#[v0,v1,v2]:=by cases args;simp_all
  obtain ⟨rfl,rfl⟩:=trodVars_none hV
  have k0_:=h0
  have lt0:∀ x∈p0,x.block<W.heap.size:=by obtain ⟨m,hm⟩:=k0_;exact DataW.trod_lt m _ _ _ hm
  have k1_:=h1
  have lt1:∀ x∈p1,x.block<W.heap.size:=by obtain ⟨m,hm⟩:=k1_;exact DataW.trod_lt m _ _ _ hm
  have k2_:=h2
  have lt2:∀ x∈p2,x.block<W.heap.size:=by obtain ⟨m,hm⟩:=k2_;exact DataW.trod_lt m _ _ _ hm
  obtain ⟨cs0,rfl,hsz0⟩:=okWide_struct Try.underlying24 (hval 0 24 v0 rfl rfl)
  obtain ⟨l0⟩:=cs0
  obtain ⟨fuel0,hf0⟩:=h0
  obtain ⟨A0,c0,l0,rfl,hsl0,hnil0,hfit0⟩:=q2jj hf0 (by rw [q2jf] at hsz0;exact hsz0)
  obtain ⟨A1,n1,c1,rfl⟩:=okWide_slice Try.underlying25 (hval 1 25 v1 rfl rfl)
  obtain ⟨fuel1,hf1⟩:=h1
  have hnil1:=q2j7 Try.underlying25 hf1
  obtain ⟨l1,rfl,hsl1,hfit1,_,_⟩:=q2j8 Pt.cells Pt.Fits Try.underlying25 q2t3 (by decide) (fun _=>rfl) q2t5 hf1
  obtain ⟨A2,n2,c2,rfl⟩:=okWide_slice Try.underlying25 (hval 2 25 v2 rfl rfl)
  obtain ⟨fuel2,hf2⟩:=h2
  have hnil2:=q2j7 Try.underlying25 hf2
  obtain ⟨l2,rfl,hsl2,hfit2,_,_⟩:=q2j8 Pt.cells Pt.Fits Try.underlying25 q2t3 (by decide) (fun _=>rfl) q2t5 hf2
  clear hA0 hval0
  refine (q2t7 A0 c0 l0 A1 c1 l1 A2 c2 l2 _ hsl0 hnil0 hsl1 hnil1 hfit1 hsl2 hnil2 hfit2).mono fun e W' ⟨he,hx⟩=>?_
  have bel:Below W.heap.size W W':=(q9k hx).toBelow
  subst he
  exact ⟨_,rfl,_,_,_,[],_,[],hW',trodAll_mk1 (shut_bool Try.underlying4 _),(trodAll_cons_mk (Below.trod q2j5 (by kernel_rfl) (of_decide_eq_true (by kernel_rfl)) k0_ bel lt0) (trodAll_cons_mk (Below.trod q2j5 (by kernel_rfl) (of_decide_eq_true (by kernel_rfl)) k1_ bel lt1) (trodAll_cons_mk (Below.trod q2j5 (by kernel_rfl) (of_decide_eq_true (by kernel_rfl)) k2_ bel lt2) trodAll_mk0))),rfl,bel.frame _,fun h=>by cases h⟩
theorem q2t9:Rows.crestMergesRow.holds Try.pinned (OpenSpec.ofChange Rows.crestMergesSpec) :=
  OpenClaim.holds_of_wide 3 Try.f3 rfl rfl rfl rfl rfl rfl rfl ⟨rfl,rfl,rfl,rfl,rfl⟩ rfl rfl rfl rfl rfl (by kernel_rfl) Try.func3 (by kernel_rfl)
    (of_decide_eq_true (by kernel_rfl)) (by unfold Func.isWrapper;rw [if_neg (of_decide_eq_false (by kernel_rfl))];exact ⟨rfl,rfl⟩)
    (fun os started H enc _=>q2t8 os started H enc)
theorem crestMerges_holds:Rows.CrestMergesSaid:=q2t9
end Go.Proofs.Ytpgpbhjkgciggaa
