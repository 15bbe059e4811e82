/-
  No cell of these rows narrows 'for every input' (looked for: loops, veiled, ifaces, maps, wideKeys, modest, calm, conditions, laid).
  DERIVED. THE GIVEN ROWS OF THIS SEAT. 6 by the template 'for every input the law returns true; each argument reads behind the call as it read before'; 0 by the template 'total and deterministic' (their statements: YtbjpmdhdoggobaaGreatTotals.lean).
  GIVEN WITH THE SEED: the statements are not yours to turn. If you find one false, say at which input.
  Laid BY PROGRAM, IN A SANDBOX (cutbox-rows.mjs): the forced cells as the released guide's own fill.sh prints them over the translation a378fb83868faa0f… (all of the seat's roots in one cut). By AI agents, Wed Nov 11 2026. No macro, syntax, notation, axiom, sorry.
-/
import Derived.Test.YtbjpmdhdoggobaaGreatChecked
import GoSem.Claim
import GoSem.ClaimJoined
import GoSem.ClaimMapViews
import Derived.JoinedTies
import Derived.KernelRfl
namespace Go.Proofs.YtbjpmdhdoggobaaGreat
/- THE CELL 'sum', in the pinned program and in every row, IS THE sha256 OF THE DUMP (.gsa) THAT YtbjpmdhdoggobaaGreatProg.lean LOADS. Nothing in Lean hashes anything: it is a label: what it is worth is what the hold of that sum in a sandbox is worth. -/
noncomputable def Tryz.pinned : Pinned := { name := "ytbjpmdhdoggobaagreat", sum := "a378fb83868faa0f21215a1f815aac5fb8b2d993d8d464867841591187224b53", checked := Tryz.checked }
namespace Rows
def none {H : Type} : Left H := { results := [], args := [] }

/-- 'pelotonlaw33.GroupFinds': WHATEVER THE INPUT: true; the input reads as it did. -/
def groupFindsSpec : ChangeSpec := { name := "groupFinds", fn := fun _ => fun
  | [d1, d2, d3] => { results := [.lit (.bool true)], args := [d1, d2, d3] }
  | _ => none }
def groupFindsRow : OpenClaim := { program := "ytbjpmdhdoggobaagreat", sum := "a378fb83868faa0f21215a1f815aac5fb8b2d993d8d464867841591187224b53", func := "peloton/pelotonlaw33.GroupFinds", spec := "groupFinds", inPlace := ["math/bits.Add64", "math/bits.Sub64"], unfollowed := true, recurses := true, named := ["math/bits.divideError", "math/bits.overflowError"], apart := false }
def GroupFindsSaid : Prop := groupFindsRow.holds Tryz.pinned (OpenSpec.ofChange groupFindsSpec)

/-- ITS FALSE NEIGHBOUR: 'it returns false'. Refute it at one input. -/
def groupFindsWrong : ChangeSpec := { name := "groupFinds", fn := fun _ => fun
  | [d1, d2, d3] => { results := [.lit (.bool false)], args := [d1, d2, d3] }
  | _ => none }
def GroupFindsWrongFalsely : Prop := groupFindsRow.holds Tryz.pinned (OpenSpec.ofChange groupFindsWrong)

/-- 'pelotonlaw33.GroupLeast': WHATEVER THE INPUT: true; the input reads as it did. -/
def groupLeastSpec : ChangeSpec := { name := "groupLeast", fn := fun _ => fun
  | [d1, d2, d3] => { results := [.lit (.bool true)], args := [d1, d2, d3] }
  | _ => none }
def groupLeastRow : OpenClaim := { program := "ytbjpmdhdoggobaagreat", sum := "a378fb83868faa0f21215a1f815aac5fb8b2d993d8d464867841591187224b53", func := "peloton/pelotonlaw33.GroupLeast", spec := "groupLeast", inPlace := ["math/bits.Add64", "math/bits.Sub64"], unfollowed := true, recurses := true, named := ["math/bits.divideError", "math/bits.overflowError"], apart := false }
def GroupLeastSaid : Prop := groupLeastRow.holds Tryz.pinned (OpenSpec.ofChange groupLeastSpec)

/-- ITS FALSE NEIGHBOUR: 'it returns false'. Refute it at one input. -/
def groupLeastWrong : ChangeSpec := { name := "groupLeast", fn := fun _ => fun
  | [d1, d2, d3] => { results := [.lit (.bool false)], args := [d1, d2, d3] }
  | _ => none }
def GroupLeastWrongFalsely : Prop := groupLeastRow.holds Tryz.pinned (OpenSpec.ofChange groupLeastWrong)

/-- 'pelotonlaw33.GroupTells': WHATEVER THE INPUT: true; the input reads as it did. -/
def groupTellsSpec : ChangeSpec := { name := "groupTells", fn := fun _ => fun
  | [d1, d2, d3, d4, d5, d6] => { results := [.lit (.bool true)], args := [d1, d2, d3, d4, d5, d6] }
  | _ => none }
def groupTellsRow : OpenClaim := { program := "ytbjpmdhdoggobaagreat", sum := "a378fb83868faa0f21215a1f815aac5fb8b2d993d8d464867841591187224b53", func := "peloton/pelotonlaw33.GroupTells", spec := "groupTells", inPlace := ["math/bits.Add64", "math/bits.Sub64"], unfollowed := true, recurses := true, named := ["math/bits.divideError", "math/bits.overflowError"], apart := false }
def GroupTellsSaid : Prop := groupTellsRow.holds Tryz.pinned (OpenSpec.ofChange groupTellsSpec)

/-- ITS FALSE NEIGHBOUR: 'it returns false'. Refute it at one input. -/
def groupTellsWrong : ChangeSpec := { name := "groupTells", fn := fun _ => fun
  | [d1, d2, d3, d4, d5, d6] => { results := [.lit (.bool false)], args := [d1, d2, d3, d4, d5, d6] }
  | _ => none }
def GroupTellsWrongFalsely : Prop := groupTellsRow.holds Tryz.pinned (OpenSpec.ofChange groupTellsWrong)

/-- 'pelotonlaw33.GroupClasses': WHATEVER THE INPUT: true; the input reads as it did. -/
def groupClassesSpec : ChangeSpec := { name := "groupClasses", fn := fun _ => fun
  | [d1, d2, d3] => { results := [.lit (.bool true)], args := [d1, d2, d3] }
  | _ => none }
def groupClassesRow : OpenClaim := { program := "ytbjpmdhdoggobaagreat", sum := "a378fb83868faa0f21215a1f815aac5fb8b2d993d8d464867841591187224b53", func := "peloton/pelotonlaw33.GroupClasses", spec := "groupClasses", inPlace := ["math/bits.Add64", "math/bits.Sub64"], unfollowed := true, recurses := true, named := ["math/bits.divideError", "math/bits.overflowError"], apart := false }
def GroupClassesSaid : Prop := groupClassesRow.holds Tryz.pinned (OpenSpec.ofChange groupClassesSpec)

/-- ITS FALSE NEIGHBOUR: 'it returns false'. Refute it at one input. -/
def groupClassesWrong : ChangeSpec := { name := "groupClasses", fn := fun _ => fun
  | [d1, d2, d3] => { results := [.lit (.bool false)], args := [d1, d2, d3] }
  | _ => none }
def GroupClassesWrongFalsely : Prop := groupClassesRow.holds Tryz.pinned (OpenSpec.ofChange groupClassesWrong)

/-- 'pelotonlaw33.GroupCuts': WHATEVER THE INPUT: true; the input reads as it did. -/
def groupCutsSpec : ChangeSpec := { name := "groupCuts", fn := fun _ => fun
  | [d1, d2, d3] => { results := [.lit (.bool true)], args := [d1, d2, d3] }
  | _ => none }
def groupCutsRow : OpenClaim := { program := "ytbjpmdhdoggobaagreat", sum := "a378fb83868faa0f21215a1f815aac5fb8b2d993d8d464867841591187224b53", func := "peloton/pelotonlaw33.GroupCuts", spec := "groupCuts", inPlace := ["math/bits.Add64", "math/bits.Sub64"], unfollowed := true, recurses := true, named := ["math/bits.divideError", "math/bits.overflowError"], apart := false }
def GroupCutsSaid : Prop := groupCutsRow.holds Tryz.pinned (OpenSpec.ofChange groupCutsSpec)

/-- ITS FALSE NEIGHBOUR: 'it returns false'. Refute it at one input. -/
def groupCutsWrong : ChangeSpec := { name := "groupCuts", fn := fun _ => fun
  | [d1, d2, d3] => { results := [.lit (.bool false)], args := [d1, d2, d3] }
  | _ => none }
def GroupCutsWrongFalsely : Prop := groupCutsRow.holds Tryz.pinned (OpenSpec.ofChange groupCutsWrong)

/-- 'pelotonlaw33.GroupGrows': WHATEVER THE INPUT: true; the input reads as it did. -/
def groupGrowsSpec : ChangeSpec := { name := "groupGrows", fn := fun _ => fun
  | [d1, d2, d3, d4] => { results := [.lit (.bool true)], args := [d1, d2, d3, d4] }
  | _ => none }
def groupGrowsRow : OpenClaim := { program := "ytbjpmdhdoggobaagreat", sum := "a378fb83868faa0f21215a1f815aac5fb8b2d993d8d464867841591187224b53", func := "peloton/pelotonlaw33.GroupGrows", spec := "groupGrows", inPlace := ["math/bits.Add64", "math/bits.Sub64"], unfollowed := true, recurses := true, named := ["math/bits.divideError", "math/bits.overflowError"], apart := false }
def GroupGrowsSaid : Prop := groupGrowsRow.holds Tryz.pinned (OpenSpec.ofChange groupGrowsSpec)

/-- ITS FALSE NEIGHBOUR: 'it returns false'. Refute it at one input. -/
def groupGrowsWrong : ChangeSpec := { name := "groupGrows", fn := fun _ => fun
  | [d1, d2, d3, d4] => { results := [.lit (.bool false)], args := [d1, d2, d3, d4] }
  | _ => none }
def GroupGrowsWrongFalsely : Prop := groupGrowsRow.holds Tryz.pinned (OpenSpec.ofChange groupGrowsWrong)

/- THE SECOND FORM. 'bulk': how many values and letters a reading holds, each counted each time it is reached (what is shared counts as often as it is met; a slice's spare places count too). A statement '..UptoSaid' is the law's where the arguments, and the package variables that the reading takes, are together of bulk at most 1048576: NARROWER than '..Said'. Prove '..Said' where nothing that the law and all that it calls make is longer than what came in: it says more and counts as full. Else prove '..UptoSaid'. A law counts once. -/
mutual
def uptoBulk {H : Type} : DataW H → Nat
  | .lit (.string bytes) => bytes.length + 1
  | .lit _ => 1
  | .nil => 1
  | .ptr d => uptoBulk d + 1
  | .slice elems spare => uptoBulkAll elems + uptoBulkAll spare + 1
  | .agg parts => uptoBulkAll parts + 1
  | .iface _ d => uptoBulk d + 1
  | .map entries => uptoBulkEntries entries + 1
  | .held _ => 1
def uptoBulkAll {H : Type} : List (DataW H) → Nat
  | [] => 0
  | d :: r => uptoBulk d + uptoBulkAll r
def uptoBulkEntries {H : Type} : List (Lit × DataW H) → Nat
  | [] => 0
  | x :: r => uptoBulkEntry x + uptoBulkEntries r
def uptoBulkEntry {H : Type} : Lit × DataW H → Nat
  | (.string bytes, d) => bytes.length + uptoBulk d + 1
  | (_, d) => uptoBulk d + 1
 end
def uptoSmall : (H : Type) → List (DataW H) → Bool := fun _ ds => decide (uptoBulkAll ds ≤ 1048576)
def OpenSpec.upto (s : _root_.Go.ChangeSpec) : _root_.Go.OpenSpec := { _root_.Go.OpenSpec.ofChange s with cond := some uptoSmall }

/-- 'pelotonlaw33.GroupFinds', WHERE WHAT IT READS IS OF BULK AT MOST 1048576: true; the input reads as it did. -/
def groupFindsUptoRow : OpenClaim := { program := "ytbjpmdhdoggobaagreat", sum := "a378fb83868faa0f21215a1f815aac5fb8b2d993d8d464867841591187224b53", func := "peloton/pelotonlaw33.GroupFinds", spec := "groupFinds", inPlace := ["math/bits.Add64", "math/bits.Sub64"], unfollowed := true, recurses := true, named := ["math/bits.divideError", "math/bits.overflowError"], apart := false, narrowed := true }
def GroupFindsUptoSaid : Prop := groupFindsUptoRow.holds Tryz.pinned (OpenSpec.upto groupFindsSpec)

/-- 'pelotonlaw33.GroupLeast', WHERE WHAT IT READS IS OF BULK AT MOST 1048576: true; the input reads as it did. -/
def groupLeastUptoRow : OpenClaim := { program := "ytbjpmdhdoggobaagreat", sum := "a378fb83868faa0f21215a1f815aac5fb8b2d993d8d464867841591187224b53", func := "peloton/pelotonlaw33.GroupLeast", spec := "groupLeast", inPlace := ["math/bits.Add64", "math/bits.Sub64"], unfollowed := true, recurses := true, named := ["math/bits.divideError", "math/bits.overflowError"], apart := false, narrowed := true }
def GroupLeastUptoSaid : Prop := groupLeastUptoRow.holds Tryz.pinned (OpenSpec.upto groupLeastSpec)

/-- 'pelotonlaw33.GroupTells', WHERE WHAT IT READS IS OF BULK AT MOST 1048576: true; the input reads as it did. -/
def groupTellsUptoRow : OpenClaim := { program := "ytbjpmdhdoggobaagreat", sum := "a378fb83868faa0f21215a1f815aac5fb8b2d993d8d464867841591187224b53", func := "peloton/pelotonlaw33.GroupTells", spec := "groupTells", inPlace := ["math/bits.Add64", "math/bits.Sub64"], unfollowed := true, recurses := true, named := ["math/bits.divideError", "math/bits.overflowError"], apart := false, narrowed := true }
def GroupTellsUptoSaid : Prop := groupTellsUptoRow.holds Tryz.pinned (OpenSpec.upto groupTellsSpec)

/-- 'pelotonlaw33.GroupClasses', WHERE WHAT IT READS IS OF BULK AT MOST 1048576: true; the input reads as it did. -/
def groupClassesUptoRow : OpenClaim := { program := "ytbjpmdhdoggobaagreat", sum := "a378fb83868faa0f21215a1f815aac5fb8b2d993d8d464867841591187224b53", func := "peloton/pelotonlaw33.GroupClasses", spec := "groupClasses", inPlace := ["math/bits.Add64", "math/bits.Sub64"], unfollowed := true, recurses := true, named := ["math/bits.divideError", "math/bits.overflowError"], apart := false, narrowed := true }
def GroupClassesUptoSaid : Prop := groupClassesUptoRow.holds Tryz.pinned (OpenSpec.upto groupClassesSpec)

/-- 'pelotonlaw33.GroupCuts', WHERE WHAT IT READS IS OF BULK AT MOST 1048576: true; the input reads as it did. -/
def groupCutsUptoRow : OpenClaim := { program := "ytbjpmdhdoggobaagreat", sum := "a378fb83868faa0f21215a1f815aac5fb8b2d993d8d464867841591187224b53", func := "peloton/pelotonlaw33.GroupCuts", spec := "groupCuts", inPlace := ["math/bits.Add64", "math/bits.Sub64"], unfollowed := true, recurses := true, named := ["math/bits.divideError", "math/bits.overflowError"], apart := false, narrowed := true }
def GroupCutsUptoSaid : Prop := groupCutsUptoRow.holds Tryz.pinned (OpenSpec.upto groupCutsSpec)

/-- 'pelotonlaw33.GroupGrows', WHERE WHAT IT READS IS OF BULK AT MOST 1048576: true; the input reads as it did. -/
def groupGrowsUptoRow : OpenClaim := { program := "ytbjpmdhdoggobaagreat", sum := "a378fb83868faa0f21215a1f815aac5fb8b2d993d8d464867841591187224b53", func := "peloton/pelotonlaw33.GroupGrows", spec := "groupGrows", inPlace := ["math/bits.Add64", "math/bits.Sub64"], unfollowed := true, recurses := true, named := ["math/bits.divideError", "math/bits.overflowError"], apart := false, narrowed := true }
def GroupGrowsUptoSaid : Prop := groupGrowsUptoRow.holds Tryz.pinned (OpenSpec.upto groupGrowsSpec)

end Rows
end Go.Proofs.YtbjpmdhdoggobaaGreat
