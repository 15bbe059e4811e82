/- The statement SpreadNames: the printed function is evaluated, and the join. -/
import Derived.Test.YtpojhcjdcbegiaaGreatGf
set_option linter.unusedSimpArgs false
set_option linter.unusedVariables false
namespace Go.Proofs.YtpojhcjdcbegiaaGreat
open Go Go.Tx Go.Pel Go.Proofs.Tryz Go.ChangeShapes Go.WideShapes Go.ChangeAt Go.RowKit
set_option maxRecDepth 100000 in
theorem pnames_plain : F_law32_SpreadNames 1001 () = some true := by kernel_rfl
theorem pnames_some : ∃ d, F_law32_SpreadNames d () = some true := ⟨1001, pnames_plain⟩
theorem pnames_walk (w : World) : Calls Tryz.prog 3 #[] w fun e w' => e = .returned (.bool true) ∧ ∃ x, w' = ext w x := by
  obtain ⟨d, hd⟩ := pnames_some
  exact law_of (x := ()) (law32_SpreadNames_cok d) hd rfl w VRs.nil
set_option maxRecDepth 100000 in
theorem spreadNames_lifted (os : Os) (started : os.Started) (H : Type) (enc : TypeId × Value → H) :
    ReturnsInHanded {} Tryz.checked os 3 .any (Rows.spreadNamesSpec.pre6 enc Tryz.prog Tryz.f3 Rows.spreadNamesRow.domain false) (Rows.spreadNamesSpec.post enc Tryz.prog Tryz.f3 false true false false) := by
  refine returnsInHanded_of_change (C := Tryz.checked) ownKnob_ started (by kernel_rfl) Tryz.func3
    (ChangeSpec.witness6 (enc := enc) (C := Tryz.checked) false ⟨#[], #[], []⟩ 8 (by kernel_rfl) (by kernel_rfl) (by kernel_rfl) (by kernel_rfl)) ?_
  intro W base args ds gs before hval0 hW hcnd _
  have hval : ∀ (j : Nat) t v, Tryz.f3.params[j]? = some t → args[j]? = some v → Value.okWide Tryz.prog W .any base t v := hval0
  have hW' := hW
  obtain ⟨p, q, hA0, hV, rfl, hfz, hnd⟩ := hW
  have hA : DataW.TrodAll enc Tryz.prog W 0 (fun _ => true) true Tryz.f3.params.toList args.toList ds p := hA0
  rw [Tryz.params3] at hA hval
  obtain ⟨hargs, rfl, rfl⟩ := trodAll_nil hA
  obtain rfl : args = #[] := by cases args; simp_all
  obtain ⟨rfl, rfl⟩ := trodVars_none hV
  clear hA0 hval0
  refine (pnames_walk _).mono fun e W' ⟨he, hx⟩ => ?_
  have bel : Below W.heap.size W W' := (bel_of hx).toBelow
  subst he
  exact ⟨_, rfl, _, _, _, [], _, [], hW', trodAll_mk1 (shut_bool Tryz.underlying4 _), trodAll_mk0, rfl, bel.frame _, fun h => by cases h⟩
theorem spreadNames_over : Rows.spreadNamesRow.holds Tryz.pinned (OpenSpec.ofChange Rows.spreadNamesSpec) :=
  OpenClaim.holds_of_wide 3 Tryz.f3 rfl rfl rfl rfl rfl rfl rfl ⟨rfl, rfl, rfl, rfl, rfl⟩ rfl rfl rfl rfl rfl (by kernel_rfl) Tryz.func3 (by kernel_rfl)
    (of_decide_eq_true (by kernel_rfl)) (by unfold Func.isWrapper; rw [if_neg (of_decide_eq_false (by kernel_rfl))]; exact ⟨rfl, rfl⟩)
    (fun os started H enc _ => spreadNames_lifted os started H enc)
/-- The statement. -/
theorem spreadNames_holds : Rows.SpreadNamesSaid := spreadNames_over
end Go.Proofs.YtpojhcjdcbegiaaGreat
