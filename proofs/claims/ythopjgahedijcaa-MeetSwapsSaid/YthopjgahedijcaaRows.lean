/-
  No cell of these rows narrows 'for every input' (looked for: loops, veiled, ifaces, maps, wideKeys, modest, calm, conditions, laid).
  DERIVED. THE GIVEN ROWS OF THIS SEAT. 5 by the template 'for every input the law returns true; each argument reads behind the call as it read before'; 0 by the template 'total and deterministic' (their statements: YthopjgahedijcaaTotals.lean).
  GIVEN WITH THE SEED: the statements are not yours to turn. If you find one false, say at which input.
  Laid BY PROGRAM, IN A SANDBOX (cutbox-rows.mjs): the forced cells as the released guide's own fill.sh prints them over the translation e65509776d897ffb… (all of the seat's roots in one cut). By AI agents, Wed Nov 11 2026. No macro, syntax, notation, axiom, sorry.
-/
import Derived.Test.YthopjgahedijcaaChecked
import GoSem.Claim
import GoSem.ClaimJoined
import GoSem.ClaimMapViews
import Derived.JoinedTies
import Derived.KernelRfl
namespace Go.Proofs.Ythopjgahedijcaa
/- THE CELL 'sum', in the pinned program and in every row, IS THE sha256 OF THE DUMP (.gsa) THAT YthopjgahedijcaaProg.lean LOADS. Nothing in Lean hashes anything: it is a label: what it is worth is what the hold of that sum in a sandbox is worth. -/
noncomputable def Try.pinned : Pinned := { name := "ythopjgahedijcaa", sum := "e65509776d897ffbd86a1fb65d6bddbc3c766b7456b50ef60118865b89a7c6a8", checked := Try.checked }
namespace Rows
def none {H : Type} : Left H := { results := [], args := [] }

/-- 'pelotonlaw04.MeetNext': WHATEVER THE INPUT: true; the input reads as it did. -/
def meetNextSpec : ChangeSpec := { name := "meetNext", fn := fun _ => fun
  | [d1, d2] => { results := [.lit (.bool true)], args := [d1, d2] }
  | _ => none }
def meetNextRow : OpenClaim := { program := "ythopjgahedijcaa", sum := "e65509776d897ffbd86a1fb65d6bddbc3c766b7456b50ef60118865b89a7c6a8", func := "peloton/pelotonlaw04.MeetNext", spec := "meetNext", unfollowed := true, recurses := true, apart := false }
def MeetNextSaid : Prop := meetNextRow.holds Try.pinned (OpenSpec.ofChange meetNextSpec)

/-- ITS FALSE NEIGHBOUR: 'it returns false'. Refute it at one input. -/
def meetNextWrong : ChangeSpec := { name := "meetNext", fn := fun _ => fun
  | [d1, d2] => { results := [.lit (.bool false)], args := [d1, d2] }
  | _ => none }
def MeetNextWrongFalsely : Prop := meetNextRow.holds Try.pinned (OpenSpec.ofChange meetNextWrong)

/-- 'pelotonlaw04.MeetParts': WHATEVER THE INPUT: true; the input reads as it did. -/
def meetPartsSpec : ChangeSpec := { name := "meetParts", fn := fun _ => fun
  | [d1, d2, d3, d4] => { results := [.lit (.bool true)], args := [d1, d2, d3, d4] }
  | _ => none }
def meetPartsRow : OpenClaim := { program := "ythopjgahedijcaa", sum := "e65509776d897ffbd86a1fb65d6bddbc3c766b7456b50ef60118865b89a7c6a8", func := "peloton/pelotonlaw04.MeetParts", spec := "meetParts", unfollowed := true, recurses := true, apart := false }
def MeetPartsSaid : Prop := meetPartsRow.holds Try.pinned (OpenSpec.ofChange meetPartsSpec)

/-- ITS FALSE NEIGHBOUR: 'it returns false'. Refute it at one input. -/
def meetPartsWrong : ChangeSpec := { name := "meetParts", fn := fun _ => fun
  | [d1, d2, d3, d4] => { results := [.lit (.bool false)], args := [d1, d2, d3, d4] }
  | _ => none }
def MeetPartsWrongFalsely : Prop := meetPartsRow.holds Try.pinned (OpenSpec.ofChange meetPartsWrong)

/-- 'pelotonlaw04.MeetFinds': WHATEVER THE INPUT: true; the input reads as it did. -/
def meetFindsSpec : ChangeSpec := { name := "meetFinds", fn := fun _ => fun
  | [d1, d2, d3] => { results := [.lit (.bool true)], args := [d1, d2, d3] }
  | _ => none }
def meetFindsRow : OpenClaim := { program := "ythopjgahedijcaa", sum := "e65509776d897ffbd86a1fb65d6bddbc3c766b7456b50ef60118865b89a7c6a8", func := "peloton/pelotonlaw04.MeetFinds", spec := "meetFinds", inPlace := ["math/bits.Add64"], unfollowed := true, recurses := true, apart := false }
def MeetFindsSaid : Prop := meetFindsRow.holds Try.pinned (OpenSpec.ofChange meetFindsSpec)

/-- ITS FALSE NEIGHBOUR: 'it returns false'. Refute it at one input. -/
def meetFindsWrong : ChangeSpec := { name := "meetFinds", fn := fun _ => fun
  | [d1, d2, d3] => { results := [.lit (.bool false)], args := [d1, d2, d3] }
  | _ => none }
def MeetFindsWrongFalsely : Prop := meetFindsRow.holds Try.pinned (OpenSpec.ofChange meetFindsWrong)

/-- 'pelotonlaw04.MeetNames': WHATEVER THE INPUT: true; the input reads as it did. -/
def meetNamesSpec : ChangeSpec := { name := "meetNames", fn := fun _ => fun
  | [] => { results := [.lit (.bool true)], args := [] }
  | _ => none }
def meetNamesRow : OpenClaim := { program := "ythopjgahedijcaa", sum := "e65509776d897ffbd86a1fb65d6bddbc3c766b7456b50ef60118865b89a7c6a8", func := "peloton/pelotonlaw04.MeetNames", spec := "meetNames", inPlace := ["math/bits.Add64"], unfollowed := true, recurses := true, apart := false }
def MeetNamesSaid : Prop := meetNamesRow.holds Try.pinned (OpenSpec.ofChange meetNamesSpec)

/-- ITS FALSE NEIGHBOUR: 'it returns false'. Refute it at one input. -/
def meetNamesWrong : ChangeSpec := { name := "meetNames", fn := fun _ => fun
  | [] => { results := [.lit (.bool false)], args := [] }
  | _ => none }
def MeetNamesWrongFalsely : Prop := meetNamesRow.holds Try.pinned (OpenSpec.ofChange meetNamesWrong)

/-- 'pelotonlaw04.MeetSwaps': WHATEVER THE INPUT: true; the input reads as it did. -/
def meetSwapsSpec : ChangeSpec := { name := "meetSwaps", fn := fun _ => fun
  | [d1, d2, d3] => { results := [.lit (.bool true)], args := [d1, d2, d3] }
  | _ => none }
def meetSwapsRow : OpenClaim := { program := "ythopjgahedijcaa", sum := "e65509776d897ffbd86a1fb65d6bddbc3c766b7456b50ef60118865b89a7c6a8", func := "peloton/pelotonlaw04.MeetSwaps", spec := "meetSwaps", inPlace := ["math/bits.Add64", "math/bits.Sub64"], unfollowed := true, recurses := true, named := ["math/bits.divideError", "math/bits.overflowError"], apart := false }
def MeetSwapsSaid : Prop := meetSwapsRow.holds Try.pinned (OpenSpec.ofChange meetSwapsSpec)

/-- ITS FALSE NEIGHBOUR: 'it returns false'. Refute it at one input. -/
def meetSwapsWrong : ChangeSpec := { name := "meetSwaps", fn := fun _ => fun
  | [d1, d2, d3] => { results := [.lit (.bool false)], args := [d1, d2, d3] }
  | _ => none }
def MeetSwapsWrongFalsely : Prop := meetSwapsRow.holds Try.pinned (OpenSpec.ofChange meetSwapsWrong)

/- THE SECOND FORM. 'bulk': how many values and letters a reading holds, each counted each time it is reached (what is shared counts as often as it is met; a slice's spare places count too). A statement '..UptoSaid' is the law's where the arguments, and the package variables that the reading takes, are together of bulk at most 1048576: NARROWER than '..Said'. Prove '..Said' where nothing that the law and all that it calls make is longer than what came in: it says more and counts as full. Else prove '..UptoSaid'. A law counts once. -/
mutual
def uptoBulk {H : Type} : DataW H → Nat
  | .lit (.string bytes) => bytes.length + 1
  | .lit _ => 1
  | .nil => 1
  | .ptr d => uptoBulk d + 1
  | .slice elems spare => uptoBulkAll elems + uptoBulkAll spare + 1
  | .agg parts => uptoBulkAll parts + 1
  | .iface _ d => uptoBulk d + 1
  | .map entries => uptoBulkEntries entries + 1
  | .held _ => 1
def uptoBulkAll {H : Type} : List (DataW H) → Nat
  | [] => 0
  | d :: r => uptoBulk d + uptoBulkAll r
def uptoBulkEntries {H : Type} : List (Lit × DataW H) → Nat
  | [] => 0
  | x :: r => uptoBulkEntry x + uptoBulkEntries r
def uptoBulkEntry {H : Type} : Lit × DataW H → Nat
  | (.string bytes, d) => bytes.length + uptoBulk d + 1
  | (_, d) => uptoBulk d + 1
 end
def uptoSmall : (H : Type) → List (DataW H) → Bool := fun _ ds => decide (uptoBulkAll ds ≤ 1048576)
def OpenSpec.upto (s : _root_.Go.ChangeSpec) : _root_.Go.OpenSpec := { _root_.Go.OpenSpec.ofChange s with cond := some uptoSmall }

/-- 'pelotonlaw04.MeetNext', WHERE WHAT IT READS IS OF BULK AT MOST 1048576: true; the input reads as it did. -/
def meetNextUptoRow : OpenClaim := { program := "ythopjgahedijcaa", sum := "e65509776d897ffbd86a1fb65d6bddbc3c766b7456b50ef60118865b89a7c6a8", func := "peloton/pelotonlaw04.MeetNext", spec := "meetNext", unfollowed := true, recurses := true, apart := false, narrowed := true }
def MeetNextUptoSaid : Prop := meetNextUptoRow.holds Try.pinned (OpenSpec.upto meetNextSpec)

/-- 'pelotonlaw04.MeetParts', WHERE WHAT IT READS IS OF BULK AT MOST 1048576: true; the input reads as it did. -/
def meetPartsUptoRow : OpenClaim := { program := "ythopjgahedijcaa", sum := "e65509776d897ffbd86a1fb65d6bddbc3c766b7456b50ef60118865b89a7c6a8", func := "peloton/pelotonlaw04.MeetParts", spec := "meetParts", unfollowed := true, recurses := true, apart := false, narrowed := true }
def MeetPartsUptoSaid : Prop := meetPartsUptoRow.holds Try.pinned (OpenSpec.upto meetPartsSpec)

/-- 'pelotonlaw04.MeetFinds', WHERE WHAT IT READS IS OF BULK AT MOST 1048576: true; the input reads as it did. -/
def meetFindsUptoRow : OpenClaim := { program := "ythopjgahedijcaa", sum := "e65509776d897ffbd86a1fb65d6bddbc3c766b7456b50ef60118865b89a7c6a8", func := "peloton/pelotonlaw04.MeetFinds", spec := "meetFinds", inPlace := ["math/bits.Add64"], unfollowed := true, recurses := true, apart := false, narrowed := true }
def MeetFindsUptoSaid : Prop := meetFindsUptoRow.holds Try.pinned (OpenSpec.upto meetFindsSpec)

/-- 'pelotonlaw04.MeetNames', WHERE WHAT IT READS IS OF BULK AT MOST 1048576: true; the input reads as it did. -/
def meetNamesUptoRow : OpenClaim := { program := "ythopjgahedijcaa", sum := "e65509776d897ffbd86a1fb65d6bddbc3c766b7456b50ef60118865b89a7c6a8", func := "peloton/pelotonlaw04.MeetNames", spec := "meetNames", inPlace := ["math/bits.Add64"], unfollowed := true, recurses := true, apart := false, narrowed := true }
def MeetNamesUptoSaid : Prop := meetNamesUptoRow.holds Try.pinned (OpenSpec.upto meetNamesSpec)

/-- 'pelotonlaw04.MeetSwaps', WHERE WHAT IT READS IS OF BULK AT MOST 1048576: true; the input reads as it did. -/
def meetSwapsUptoRow : OpenClaim := { program := "ythopjgahedijcaa", sum := "e65509776d897ffbd86a1fb65d6bddbc3c766b7456b50ef60118865b89a7c6a8", func := "peloton/pelotonlaw04.MeetSwaps", spec := "meetSwaps", inPlace := ["math/bits.Add64", "math/bits.Sub64"], unfollowed := true, recurses := true, named := ["math/bits.divideError", "math/bits.overflowError"], apart := false, narrowed := true }
def MeetSwapsUptoSaid : Prop := meetSwapsUptoRow.holds Try.pinned (OpenSpec.upto meetSwapsSpec)

end Rows
end Go.Proofs.Ythopjgahedijcaa
