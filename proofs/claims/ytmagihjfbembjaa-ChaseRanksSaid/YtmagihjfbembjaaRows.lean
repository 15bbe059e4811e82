/-
  No cell of these rows narrows 'for every input' (looked for: loops, veiled, ifaces, maps, wideKeys, modest, calm, conditions, laid).
  DERIVED. THE GIVEN ROWS OF THIS SEAT. 9 by the template 'for every input the law returns true; each argument reads behind the call as it read before'; 0 by the template 'total and deterministic' (their statements: YtmagihjfbembjaaTotals.lean).
  GIVEN WITH THE SEED: the statements are not yours to turn. If you find one false, say at which input.
  Laid BY PROGRAM, IN A SANDBOX (cutbox-rows.mjs): the forced cells as the released guide's own fill.sh prints them over the translation dc849a5e5851fbbc… (all of the seat's roots in one cut). By AI agents, Wed Nov 11 2026. No macro, syntax, notation, axiom, sorry.
-/
import Derived.Test.YtmagihjfbembjaaChecked
import GoSem.Claim
import GoSem.ClaimJoined
import GoSem.ClaimMapViews
import Derived.JoinedTies
import Derived.KernelRfl
namespace Go.Proofs.Ytmagihjfbembjaa
/- THE CELL 'sum', in the pinned program and in every row, IS THE sha256 OF THE DUMP (.gsa) THAT YtmagihjfbembjaaProg.lean LOADS. Nothing in Lean hashes anything: it is a label: what it is worth is what the hold of that sum in a sandbox is worth. -/
noncomputable def Try.pinned : Pinned := { name := "ytmagihjfbembjaa", sum := "dc849a5e5851fbbc4cad9a5ce3a7f9a0a7c25ed06826c184700189c2cc73b98d", checked := Try.checked }
namespace Rows
def none {H : Type} : Left H := { results := [], args := [] }

/-- 'pelotonlaw05.CrestMerges': WHATEVER THE INPUT: true; the input reads as it did. -/
def crestMergesSpec : ChangeSpec := { name := "crestMerges", fn := fun _ => fun
  | [d1, d2, d3] => { results := [.lit (.bool true)], args := [d1, d2, d3] }
  | _ => none }
def crestMergesRow : OpenClaim := { program := "ytmagihjfbembjaa", sum := "dc849a5e5851fbbc4cad9a5ce3a7f9a0a7c25ed06826c184700189c2cc73b98d", func := "peloton/pelotonlaw05.CrestMerges", spec := "crestMerges", inPlace := ["math/bits.Add64"], unfollowed := true, recurses := true, apart := false }
def CrestMergesSaid : Prop := crestMergesRow.holds Try.pinned (OpenSpec.ofChange crestMergesSpec)

/-- ITS FALSE NEIGHBOUR: 'it returns false'. Refute it at one input. -/
def crestMergesWrong : ChangeSpec := { name := "crestMerges", fn := fun _ => fun
  | [d1, d2, d3] => { results := [.lit (.bool false)], args := [d1, d2, d3] }
  | _ => none }
def CrestMergesWrongFalsely : Prop := crestMergesRow.holds Try.pinned (OpenSpec.ofChange crestMergesWrong)

/-- 'pelotonlaw05.CrestParts': WHATEVER THE INPUT: true; the input reads as it did. -/
def crestPartsSpec : ChangeSpec := { name := "crestParts", fn := fun _ => fun
  | [d1, d2, d3, d4] => { results := [.lit (.bool true)], args := [d1, d2, d3, d4] }
  | _ => none }
def crestPartsRow : OpenClaim := { program := "ytmagihjfbembjaa", sum := "dc849a5e5851fbbc4cad9a5ce3a7f9a0a7c25ed06826c184700189c2cc73b98d", func := "peloton/pelotonlaw05.CrestParts", spec := "crestParts", inPlace := ["math/bits.Add64"], unfollowed := true, recurses := true, apart := false }
def CrestPartsSaid : Prop := crestPartsRow.holds Try.pinned (OpenSpec.ofChange crestPartsSpec)

/-- ITS FALSE NEIGHBOUR: 'it returns false'. Refute it at one input. -/
def crestPartsWrong : ChangeSpec := { name := "crestParts", fn := fun _ => fun
  | [d1, d2, d3, d4] => { results := [.lit (.bool false)], args := [d1, d2, d3, d4] }
  | _ => none }
def CrestPartsWrongFalsely : Prop := crestPartsRow.holds Try.pinned (OpenSpec.ofChange crestPartsWrong)

/-- 'pelotonlaw05.CrestNames': WHATEVER THE INPUT: true; the input reads as it did. -/
def crestNamesSpec : ChangeSpec := { name := "crestNames", fn := fun _ => fun
  | [] => { results := [.lit (.bool true)], args := [] }
  | _ => none }
def crestNamesRow : OpenClaim := { program := "ytmagihjfbembjaa", sum := "dc849a5e5851fbbc4cad9a5ce3a7f9a0a7c25ed06826c184700189c2cc73b98d", func := "peloton/pelotonlaw05.CrestNames", spec := "crestNames", inPlace := ["math/bits.Add64"], unfollowed := true, recurses := true, apart := false }
def CrestNamesSaid : Prop := crestNamesRow.holds Try.pinned (OpenSpec.ofChange crestNamesSpec)

/-- ITS FALSE NEIGHBOUR: 'it returns false'. Refute it at one input. -/
def crestNamesWrong : ChangeSpec := { name := "crestNames", fn := fun _ => fun
  | [] => { results := [.lit (.bool false)], args := [] }
  | _ => none }
def CrestNamesWrongFalsely : Prop := crestNamesRow.holds Try.pinned (OpenSpec.ofChange crestNamesWrong)

/-- 'pelotonlaw34.ChaseFinds': WHATEVER THE INPUT: true; the input reads as it did. -/
def chaseFindsSpec : ChangeSpec := { name := "chaseFinds", fn := fun _ => fun
  | [d1, d2, d3, d4] => { results := [.lit (.bool true)], args := [d1, d2, d3, d4] }
  | _ => none }
def chaseFindsRow : OpenClaim := { program := "ytmagihjfbembjaa", sum := "dc849a5e5851fbbc4cad9a5ce3a7f9a0a7c25ed06826c184700189c2cc73b98d", func := "peloton/pelotonlaw34.ChaseFinds", spec := "chaseFinds", inPlace := ["math/bits.Add64"], unfollowed := true, recurses := true, apart := false }
def ChaseFindsSaid : Prop := chaseFindsRow.holds Try.pinned (OpenSpec.ofChange chaseFindsSpec)

/-- ITS FALSE NEIGHBOUR: 'it returns false'. Refute it at one input. -/
def chaseFindsWrong : ChangeSpec := { name := "chaseFinds", fn := fun _ => fun
  | [d1, d2, d3, d4] => { results := [.lit (.bool false)], args := [d1, d2, d3, d4] }
  | _ => none }
def ChaseFindsWrongFalsely : Prop := chaseFindsRow.holds Try.pinned (OpenSpec.ofChange chaseFindsWrong)

/-- 'pelotonlaw34.ChaseTells': WHATEVER THE INPUT: true; the input reads as it did. -/
def chaseTellsSpec : ChangeSpec := { name := "chaseTells", fn := fun _ => fun
  | [d1, d2, d3, d4, d5] => { results := [.lit (.bool true)], args := [d1, d2, d3, d4, d5] }
  | _ => none }
def chaseTellsRow : OpenClaim := { program := "ytmagihjfbembjaa", sum := "dc849a5e5851fbbc4cad9a5ce3a7f9a0a7c25ed06826c184700189c2cc73b98d", func := "peloton/pelotonlaw34.ChaseTells", spec := "chaseTells", inPlace := ["math/bits.Add64"], unfollowed := true, recurses := true, apart := false }
def ChaseTellsSaid : Prop := chaseTellsRow.holds Try.pinned (OpenSpec.ofChange chaseTellsSpec)

/-- ITS FALSE NEIGHBOUR: 'it returns false'. Refute it at one input. -/
def chaseTellsWrong : ChangeSpec := { name := "chaseTells", fn := fun _ => fun
  | [d1, d2, d3, d4, d5] => { results := [.lit (.bool false)], args := [d1, d2, d3, d4, d5] }
  | _ => none }
def ChaseTellsWrongFalsely : Prop := chaseTellsRow.holds Try.pinned (OpenSpec.ofChange chaseTellsWrong)

/-- 'pelotonlaw34.ChaseCatches': WHATEVER THE INPUT: true; the input reads as it did. -/
def chaseCatchesSpec : ChangeSpec := { name := "chaseCatches", fn := fun _ => fun
  | [d1, d2, d3, d4] => { results := [.lit (.bool true)], args := [d1, d2, d3, d4] }
  | _ => none }
def chaseCatchesRow : OpenClaim := { program := "ytmagihjfbembjaa", sum := "dc849a5e5851fbbc4cad9a5ce3a7f9a0a7c25ed06826c184700189c2cc73b98d", func := "peloton/pelotonlaw34.ChaseCatches", spec := "chaseCatches", inPlace := ["math/bits.Add64"], unfollowed := true, recurses := true, apart := false }
def ChaseCatchesSaid : Prop := chaseCatchesRow.holds Try.pinned (OpenSpec.ofChange chaseCatchesSpec)

/-- ITS FALSE NEIGHBOUR: 'it returns false'. Refute it at one input. -/
def chaseCatchesWrong : ChangeSpec := { name := "chaseCatches", fn := fun _ => fun
  | [d1, d2, d3, d4] => { results := [.lit (.bool false)], args := [d1, d2, d3, d4] }
  | _ => none }
def ChaseCatchesWrongFalsely : Prop := chaseCatchesRow.holds Try.pinned (OpenSpec.ofChange chaseCatchesWrong)

/-- 'pelotonlaw34.ChaseChain': WHATEVER THE INPUT: true; the input reads as it did. -/
def chaseChainSpec : ChangeSpec := { name := "chaseChain", fn := fun _ => fun
  | [d1, d2, d3, d4] => { results := [.lit (.bool true)], args := [d1, d2, d3, d4] }
  | _ => none }
def chaseChainRow : OpenClaim := { program := "ytmagihjfbembjaa", sum := "dc849a5e5851fbbc4cad9a5ce3a7f9a0a7c25ed06826c184700189c2cc73b98d", func := "peloton/pelotonlaw34.ChaseChain", spec := "chaseChain", inPlace := ["math/bits.Add64"], unfollowed := true, recurses := true, apart := false }
def ChaseChainSaid : Prop := chaseChainRow.holds Try.pinned (OpenSpec.ofChange chaseChainSpec)

/-- ITS FALSE NEIGHBOUR: 'it returns false'. Refute it at one input. -/
def chaseChainWrong : ChangeSpec := { name := "chaseChain", fn := fun _ => fun
  | [d1, d2, d3, d4] => { results := [.lit (.bool false)], args := [d1, d2, d3, d4] }
  | _ => none }
def ChaseChainWrongFalsely : Prop := chaseChainRow.holds Try.pinned (OpenSpec.ofChange chaseChainWrong)

/-- 'pelotonlaw34.ChaseNames': WHATEVER THE INPUT: true; the input reads as it did. -/
def chaseNamesSpec : ChangeSpec := { name := "chaseNames", fn := fun _ => fun
  | [] => { results := [.lit (.bool true)], args := [] }
  | _ => none }
def chaseNamesRow : OpenClaim := { program := "ytmagihjfbembjaa", sum := "dc849a5e5851fbbc4cad9a5ce3a7f9a0a7c25ed06826c184700189c2cc73b98d", func := "peloton/pelotonlaw34.ChaseNames", spec := "chaseNames", inPlace := ["math/bits.Add64"], unfollowed := true, recurses := true, apart := false }
def ChaseNamesSaid : Prop := chaseNamesRow.holds Try.pinned (OpenSpec.ofChange chaseNamesSpec)

/-- ITS FALSE NEIGHBOUR: 'it returns false'. Refute it at one input. -/
def chaseNamesWrong : ChangeSpec := { name := "chaseNames", fn := fun _ => fun
  | [] => { results := [.lit (.bool false)], args := [] }
  | _ => none }
def ChaseNamesWrongFalsely : Prop := chaseNamesRow.holds Try.pinned (OpenSpec.ofChange chaseNamesWrong)

/-- 'pelotonlaw34.ChaseRanks': WHATEVER THE INPUT: true; the input reads as it did. -/
def chaseRanksSpec : ChangeSpec := { name := "chaseRanks", fn := fun _ => fun
  | [d1, d2, d3, d4] => { results := [.lit (.bool true)], args := [d1, d2, d3, d4] }
  | _ => none }
def chaseRanksRow : OpenClaim := { program := "ytmagihjfbembjaa", sum := "dc849a5e5851fbbc4cad9a5ce3a7f9a0a7c25ed06826c184700189c2cc73b98d", func := "peloton/pelotonlaw34.ChaseRanks", spec := "chaseRanks", inPlace := ["math/bits.Add64"], unfollowed := true, recurses := true, apart := false }
def ChaseRanksSaid : Prop := chaseRanksRow.holds Try.pinned (OpenSpec.ofChange chaseRanksSpec)

/-- ITS FALSE NEIGHBOUR: 'it returns false'. Refute it at one input. -/
def chaseRanksWrong : ChangeSpec := { name := "chaseRanks", fn := fun _ => fun
  | [d1, d2, d3, d4] => { results := [.lit (.bool false)], args := [d1, d2, d3, d4] }
  | _ => none }
def ChaseRanksWrongFalsely : Prop := chaseRanksRow.holds Try.pinned (OpenSpec.ofChange chaseRanksWrong)

/- THE SECOND FORM. 'bulk': how many values and letters a reading holds, each counted each time it is reached (what is shared counts as often as it is met; a slice's spare places count too). A statement '..UptoSaid' is the law's where the arguments, and the package variables that the reading takes, are together of bulk at most 1048576: NARROWER than '..Said'. Prove '..Said' where nothing that the law and all that it calls make is longer than what came in: it says more and counts as full. Else prove '..UptoSaid'. A law counts once. -/
mutual
def uptoBulk {H : Type} : DataW H → Nat
  | .lit (.string bytes) => bytes.length + 1
  | .lit _ => 1
  | .nil => 1
  | .ptr d => uptoBulk d + 1
  | .slice elems spare => uptoBulkAll elems + uptoBulkAll spare + 1
  | .agg parts => uptoBulkAll parts + 1
  | .iface _ d => uptoBulk d + 1
  | .map entries => uptoBulkEntries entries + 1
  | .held _ => 1
def uptoBulkAll {H : Type} : List (DataW H) → Nat
  | [] => 0
  | d :: r => uptoBulk d + uptoBulkAll r
def uptoBulkEntries {H : Type} : List (Lit × DataW H) → Nat
  | [] => 0
  | x :: r => uptoBulkEntry x + uptoBulkEntries r
def uptoBulkEntry {H : Type} : Lit × DataW H → Nat
  | (.string bytes, d) => bytes.length + uptoBulk d + 1
  | (_, d) => uptoBulk d + 1
 end
def uptoSmall : (H : Type) → List (DataW H) → Bool := fun _ ds => decide (uptoBulkAll ds ≤ 1048576)
def OpenSpec.upto (s : _root_.Go.ChangeSpec) : _root_.Go.OpenSpec := { _root_.Go.OpenSpec.ofChange s with cond := some uptoSmall }

/-- 'pelotonlaw05.CrestMerges', WHERE WHAT IT READS IS OF BULK AT MOST 1048576: true; the input reads as it did. -/
def crestMergesUptoRow : OpenClaim := { program := "ytmagihjfbembjaa", sum := "dc849a5e5851fbbc4cad9a5ce3a7f9a0a7c25ed06826c184700189c2cc73b98d", func := "peloton/pelotonlaw05.CrestMerges", spec := "crestMerges", inPlace := ["math/bits.Add64"], unfollowed := true, recurses := true, apart := false, narrowed := true }
def CrestMergesUptoSaid : Prop := crestMergesUptoRow.holds Try.pinned (OpenSpec.upto crestMergesSpec)

/-- 'pelotonlaw05.CrestParts', WHERE WHAT IT READS IS OF BULK AT MOST 1048576: true; the input reads as it did. -/
def crestPartsUptoRow : OpenClaim := { program := "ytmagihjfbembjaa", sum := "dc849a5e5851fbbc4cad9a5ce3a7f9a0a7c25ed06826c184700189c2cc73b98d", func := "peloton/pelotonlaw05.CrestParts", spec := "crestParts", inPlace := ["math/bits.Add64"], unfollowed := true, recurses := true, apart := false, narrowed := true }
def CrestPartsUptoSaid : Prop := crestPartsUptoRow.holds Try.pinned (OpenSpec.upto crestPartsSpec)

/-- 'pelotonlaw05.CrestNames', WHERE WHAT IT READS IS OF BULK AT MOST 1048576: true; the input reads as it did. -/
def crestNamesUptoRow : OpenClaim := { program := "ytmagihjfbembjaa", sum := "dc849a5e5851fbbc4cad9a5ce3a7f9a0a7c25ed06826c184700189c2cc73b98d", func := "peloton/pelotonlaw05.CrestNames", spec := "crestNames", inPlace := ["math/bits.Add64"], unfollowed := true, recurses := true, apart := false, narrowed := true }
def CrestNamesUptoSaid : Prop := crestNamesUptoRow.holds Try.pinned (OpenSpec.upto crestNamesSpec)

/-- 'pelotonlaw34.ChaseFinds', WHERE WHAT IT READS IS OF BULK AT MOST 1048576: true; the input reads as it did. -/
def chaseFindsUptoRow : OpenClaim := { program := "ytmagihjfbembjaa", sum := "dc849a5e5851fbbc4cad9a5ce3a7f9a0a7c25ed06826c184700189c2cc73b98d", func := "peloton/pelotonlaw34.ChaseFinds", spec := "chaseFinds", inPlace := ["math/bits.Add64"], unfollowed := true, recurses := true, apart := false, narrowed := true }
def ChaseFindsUptoSaid : Prop := chaseFindsUptoRow.holds Try.pinned (OpenSpec.upto chaseFindsSpec)

/-- 'pelotonlaw34.ChaseTells', WHERE WHAT IT READS IS OF BULK AT MOST 1048576: true; the input reads as it did. -/
def chaseTellsUptoRow : OpenClaim := { program := "ytmagihjfbembjaa", sum := "dc849a5e5851fbbc4cad9a5ce3a7f9a0a7c25ed06826c184700189c2cc73b98d", func := "peloton/pelotonlaw34.ChaseTells", spec := "chaseTells", inPlace := ["math/bits.Add64"], unfollowed := true, recurses := true, apart := false, narrowed := true }
def ChaseTellsUptoSaid : Prop := chaseTellsUptoRow.holds Try.pinned (OpenSpec.upto chaseTellsSpec)

/-- 'pelotonlaw34.ChaseCatches', WHERE WHAT IT READS IS OF BULK AT MOST 1048576: true; the input reads as it did. -/
def chaseCatchesUptoRow : OpenClaim := { program := "ytmagihjfbembjaa", sum := "dc849a5e5851fbbc4cad9a5ce3a7f9a0a7c25ed06826c184700189c2cc73b98d", func := "peloton/pelotonlaw34.ChaseCatches", spec := "chaseCatches", inPlace := ["math/bits.Add64"], unfollowed := true, recurses := true, apart := false, narrowed := true }
def ChaseCatchesUptoSaid : Prop := chaseCatchesUptoRow.holds Try.pinned (OpenSpec.upto chaseCatchesSpec)

/-- 'pelotonlaw34.ChaseChain', WHERE WHAT IT READS IS OF BULK AT MOST 1048576: true; the input reads as it did. -/
def chaseChainUptoRow : OpenClaim := { program := "ytmagihjfbembjaa", sum := "dc849a5e5851fbbc4cad9a5ce3a7f9a0a7c25ed06826c184700189c2cc73b98d", func := "peloton/pelotonlaw34.ChaseChain", spec := "chaseChain", inPlace := ["math/bits.Add64"], unfollowed := true, recurses := true, apart := false, narrowed := true }
def ChaseChainUptoSaid : Prop := chaseChainUptoRow.holds Try.pinned (OpenSpec.upto chaseChainSpec)

/-- 'pelotonlaw34.ChaseNames', WHERE WHAT IT READS IS OF BULK AT MOST 1048576: true; the input reads as it did. -/
def chaseNamesUptoRow : OpenClaim := { program := "ytmagihjfbembjaa", sum := "dc849a5e5851fbbc4cad9a5ce3a7f9a0a7c25ed06826c184700189c2cc73b98d", func := "peloton/pelotonlaw34.ChaseNames", spec := "chaseNames", inPlace := ["math/bits.Add64"], unfollowed := true, recurses := true, apart := false, narrowed := true }
def ChaseNamesUptoSaid : Prop := chaseNamesUptoRow.holds Try.pinned (OpenSpec.upto chaseNamesSpec)

/-- 'pelotonlaw34.ChaseRanks', WHERE WHAT IT READS IS OF BULK AT MOST 1048576: true; the input reads as it did. -/
def chaseRanksUptoRow : OpenClaim := { program := "ytmagihjfbembjaa", sum := "dc849a5e5851fbbc4cad9a5ce3a7f9a0a7c25ed06826c184700189c2cc73b98d", func := "peloton/pelotonlaw34.ChaseRanks", spec := "chaseRanks", inPlace := ["math/bits.Add64"], unfollowed := true, recurses := true, apart := false, narrowed := true }
def ChaseRanksUptoSaid : Prop := chaseRanksUptoRow.holds Try.pinned (OpenSpec.upto chaseRanksSpec)

end Rows
end Go.Proofs.Ytmagihjfbembjaa
