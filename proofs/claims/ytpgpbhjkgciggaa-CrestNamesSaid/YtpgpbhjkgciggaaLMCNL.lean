/- The statement CrestNames: the printed function is evaluated, and the join. -/
import Derived.Test.YtpgpbhjkgciggaaGf
set_option linter.unusedSimpArgs false
set_option linter.unusedVariables false
namespace Go.Proofs.Ytpgpbhjkgciggaa
open Go Go.Tx Go.Pel Go.Proofs.Try Go.ChangeShapes Go.WideShapes Go.ChangeAt Go.RowKit
set_option maxRecDepth 100000 in
theorem q2jm:q2iw 1001 ()=some true:=by kernel_rfl
theorem q2jn:∃ d,q2iw d ()=some true:=⟨1001,q2jm⟩
theorem q2jo (w:World):Calls Try.prog 5 #[] w fun e w'=>e=.returned (.bool true)∧∃ x,w'=ext w x:=by
  obtain ⟨d,hd⟩:=q2jn
  exact qdq (x:=()) (q2ix d) hd rfl w VRs.nil
set_option maxRecDepth 100000 in
theorem q2jp (os:Os) (started:os.Started) (H:Type) (enc:TypeId×Value→H) :
    ReturnsInHanded {} Try.checked os 5 .any (Rows.crestNamesSpec.pre6 enc Try.prog Try.f5 Rows.crestNamesRow.domain false) (Rows.crestNamesSpec.post enc Try.prog Try.f5 false true false false):=by
  refine returnsInHanded_of_change (C:=Try.checked) q2j4 started (by kernel_rfl) Try.func5
    (ChangeSpec.witness6 (enc:=enc) (C:=Try.checked) false ⟨#[],#[],[]⟩ 8 (by kernel_rfl) (by kernel_rfl) (by kernel_rfl) (by kernel_rfl)) ?_
  intro W base args ds gs before hval0 hW hcnd _
  have hval:∀ (j:Nat) t v,Try.f5.params[j]?=some t→args[j]?=some v→Value.okWide Try.prog W .any base t v:=hval0
  have hW':=hW
  obtain ⟨p,q,hA0,hV,rfl,hfz,hnd⟩:=hW
  have hA:DataW.TrodAll enc Try.prog W 0 (fun _=>true) true Try.f5.params.toList args.toList ds p:=hA0
  rw [Try.params5] at hA hval
  obtain ⟨hargs,rfl,rfl⟩:=trodAll_nil hA
  obtain rfl:args=#[]:=by cases args;simp_all
  obtain ⟨rfl,rfl⟩:=trodVars_none hV
  clear hA0 hval0
  refine (q2jo _).mono fun e W' ⟨he,hx⟩=>?_
  have bel:Below W.heap.size W W':=(q9k hx).toBelow
  subst he
  exact ⟨_,rfl,_,_,_,[],_,[],hW',trodAll_mk1 (shut_bool Try.underlying4 _),trodAll_mk0,rfl,bel.frame _,fun h=>by cases h⟩
theorem q2jq:Rows.crestNamesRow.holds Try.pinned (OpenSpec.ofChange Rows.crestNamesSpec) :=
  OpenClaim.holds_of_wide 5 Try.f5 rfl rfl rfl rfl rfl rfl rfl ⟨rfl,rfl,rfl,rfl,rfl⟩ rfl rfl rfl rfl rfl (by kernel_rfl) Try.func5 (by kernel_rfl)
    (of_decide_eq_true (by kernel_rfl)) (by unfold Func.isWrapper;rw [if_neg (of_decide_eq_false (by kernel_rfl))];exact ⟨rfl,rfl⟩)
    (fun os started H enc _=>q2jp os started H enc)
theorem crestNames_holds:Rows.CrestNamesSaid:=q2jq
end Go.Proofs.Ytpgpbhjkgciggaa
