/- The statement GroupNames: the printed function is evaluated, and the join. -/
import Derived.Test.YtbjpmdhdoggobaaGe
set_option linter.unusedSimpArgs false
set_option linter.unusedVariables false
namespace Go.Proofs.Ytbjpmdhdoggobaa
open Go Go.Tx Go.Pel Go.Proofs.Try Go.ChangeShapes Go.WideShapes Go.ChangeAt Go.RowKit
set_option maxRecDepth 100000 in
theorem q246:q23g 1001 ()=some true:=by kernel_rfl
theorem q247:∃ d,q23g d ()=some true:=⟨1001,q246⟩
theorem q248 (w:World):Calls Try.prog 3 #[] w fun e w'=>e=.returned (.bool true)∧∃ x,w'=ext w x:=by
  obtain ⟨d,hd⟩:=q247
  exact qdf (x:=()) (q23h d) hd rfl w VRs.nil
set_option maxRecDepth 100000 in
theorem q249 (os:Os) (started:os.Started) (H:Type) (enc:TypeId×Value→H) :
    ReturnsInHanded {} Try.checked os 3 .any (Rows.groupNamesSpec.pre6 enc Try.prog Try.f3 Rows.groupNamesRow.domain false) (Rows.groupNamesSpec.post enc Try.prog Try.f3 false true false false):=by
  refine returnsInHanded_of_change (C:=Try.checked) q23o started (by kernel_rfl) Try.func3
    (ChangeSpec.witness6 (enc:=enc) (C:=Try.checked) false ⟨#[],#[],[]⟩ 8 (by kernel_rfl) (by kernel_rfl) (by kernel_rfl) (by kernel_rfl)) ?_
  intro W base args ds gs before hval0 hW hcnd _
  have hval:∀ (j:Nat) t v,Try.f3.params[j]?=some t→args[j]?=some v→Value.okWide Try.prog W .any base t v:=hval0
  have hW':=hW
  obtain ⟨p,q,hA0,hV,rfl,hfz,hnd⟩:=hW
  have hA:DataW.TrodAll enc Try.prog W 0 (fun _=>true) true Try.f3.params.toList args.toList ds p:=hA0
  rw [Try.params3] at hA hval
  obtain ⟨hargs,rfl,rfl⟩:=trodAll_nil hA
  obtain rfl:args=#[]:=by cases args;simp_all
  obtain ⟨rfl,rfl⟩:=trodVars_none hV
  clear hA0 hval0
  refine (q248 _).mono fun e W' ⟨he,hx⟩=>?_
  have bel:Below W.heap.size W W':=(q99 hx).toBelow
  subst he
  exact ⟨_,rfl,_,_,_,[],_,[],hW',trodAll_mk1 (shut_bool Try.underlying4 _),trodAll_mk0,rfl,bel.frame _,fun h=>by cases h⟩
theorem q24a:Rows.groupNamesRow.holds Try.pinned (OpenSpec.ofChange Rows.groupNamesSpec) :=
  OpenClaim.holds_of_wide 3 Try.f3 rfl rfl rfl rfl rfl rfl rfl ⟨rfl,rfl,rfl,rfl,rfl⟩ rfl rfl rfl rfl rfl (by kernel_rfl) Try.func3 (by kernel_rfl)
    (of_decide_eq_true (by kernel_rfl)) (by unfold Func.isWrapper;rw [if_neg (of_decide_eq_false (by kernel_rfl))];exact ⟨rfl,rfl⟩)
    (fun os started H enc _=>q249 os started H enc)
theorem groupNames_holds:Rows.GroupNamesSaid:=q24a
end Go.Proofs.Ytbjpmdhdoggobaa
