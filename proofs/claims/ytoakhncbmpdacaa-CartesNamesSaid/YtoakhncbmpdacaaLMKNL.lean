/- The statement CartesNames: the printed function is evaluated, and the join. -/
import Derived.Test.YtoakhncbmpdacaaGi
set_option linter.unusedSimpArgs false
set_option linter.unusedVariables false
namespace Go.Proofs.Ytoakhncbmpdacaa
open Go Go.Tx Go.Pel Go.Proofs.Try Go.ChangeShapes Go.WideShapes Go.ChangeAt Go.RowKit
set_option maxRecDepth 100000 in
theorem q33z:q339 1001 ()=some true:=by kernel_rfl
theorem q340:∃ d,q339 d ()=some true:=⟨1001,q33z⟩
theorem q341 (w:World):Calls Try.prog 7 #[] w fun e w'=>e=.returned (.bool true)∧∃ x,w'=ext w x:=by
  obtain ⟨d,hd⟩:=q340
  exact qe5 (x:=()) (q33a d) hd rfl w VRs.nil
set_option maxRecDepth 100000 in
theorem q342 (os:Os) (started:os.Started) (H:Type) (enc:TypeId×Value→H) :
    ReturnsInHanded {} Try.checked os 7 .any (Rows.cartesNamesSpec.pre6 enc Try.prog Try.f7 Rows.cartesNamesRow.domain false) (Rows.cartesNamesSpec.post enc Try.prog Try.f7 false true false false):=by
  refine returnsInHanded_of_change (C:=Try.checked) q33h started (by kernel_rfl) Try.func7
    (ChangeSpec.witness6 (enc:=enc) (C:=Try.checked) false ⟨#[],#[],[]⟩ 8 (by kernel_rfl) (by kernel_rfl) (by kernel_rfl) (by kernel_rfl)) ?_
  intro W base args ds gs before hval0 hW hcnd _
  have hval:∀ (j:Nat) t v,Try.f7.params[j]?=some t→args[j]?=some v→Value.okWide Try.prog W .any base t v:=hval0
  have hW':=hW
  obtain ⟨p,q,hA0,hV,rfl,hfz,hnd⟩:=hW
  have hA:DataW.TrodAll enc Try.prog W 0 (fun _=>true) true Try.f7.params.toList args.toList ds p:=hA0
  rw [Try.params7] at hA hval
  obtain ⟨hargs,rfl,rfl⟩:=trodAll_nil hA
  obtain rfl:args=#[]:=by cases args;simp_all
  obtain ⟨rfl,rfl⟩:=trodVars_none hV
  clear hA0 hval0
  refine (q341 _).mono fun e W' ⟨he,hx⟩=>?_
  have bel:Below W.heap.size W W':=(q9z hx).toBelow
  subst he
  exact ⟨_,rfl,_,_,_,[],_,[],hW',trodAll_mk1 (shut_bool Try.underlying4 _),trodAll_mk0,rfl,bel.frame _,fun h=>by cases h⟩
theorem q343:Rows.cartesNamesRow.holds Try.pinned (OpenSpec.ofChange Rows.cartesNamesSpec) :=
  OpenClaim.holds_of_wide 7 Try.f7 rfl rfl rfl rfl rfl rfl rfl ⟨rfl,rfl,rfl,rfl,rfl⟩ rfl rfl rfl rfl rfl (by kernel_rfl) Try.func7 (by kernel_rfl)
    (of_decide_eq_true (by kernel_rfl)) (by unfold Func.isWrapper;rw [if_neg (of_decide_eq_false (by kernel_rfl))];exact ⟨rfl,rfl⟩)
    (fun os started H enc _=>q342 os started H enc)
theorem cartesNames_holds:Rows.CartesNamesSaid:=q343
end Go.Proofs.Ytoakhncbmpdacaa
