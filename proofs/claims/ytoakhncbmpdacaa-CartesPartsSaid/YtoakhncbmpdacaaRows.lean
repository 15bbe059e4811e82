/-
  No cell of these rows narrows 'for every input' (looked for: loops, veiled, ifaces, maps, wideKeys, modest, calm, conditions, laid).
  DERIVED. THE GIVEN ROWS OF THIS SEAT. 6 by the template 'for every input the law returns true; each argument reads behind the call as it read before'; 0 by the template 'total and deterministic' (their statements: YtoakhncbmpdacaaTotals.lean).
  GIVEN WITH THE SEED: the statements are not yours to turn. If you find one false, say at which input.
  Laid BY PROGRAM, IN A SANDBOX (cutbox-rows.mjs): the forced cells as the released guide's own fill.sh prints them over the translation 45bd490896ecfc48… (all of the seat's roots in one cut). By AI agents, Wed Nov 11 2026. No macro, syntax, notation, axiom, sorry.
-/
import Derived.Test.YtoakhncbmpdacaaChecked
import GoSem.Claim
import GoSem.ClaimJoined
import GoSem.ClaimMapViews
import Derived.JoinedTies
import Derived.KernelRfl
namespace Go.Proofs.Ytoakhncbmpdacaa
/- THE CELL 'sum', in the pinned program and in every row, IS THE sha256 OF THE DUMP (.gsa) THAT YtoakhncbmpdacaaProg.lean LOADS. Nothing in Lean hashes anything: it is a label: what it is worth is what the hold of that sum in a sandbox is worth. -/
noncomputable def Try.pinned : Pinned := { name := "ytoakhncbmpdacaa", sum := "45bd490896ecfc484c557bc2e41527ce15ecb16da5e29aec05ed73b0121fff84", checked := Try.checked }
namespace Rows
def none {H : Type} : Left H := { results := [], args := [] }

/-- 'pelotonlaw11.CartesMakes': WHATEVER THE INPUT: true; the input reads as it did. -/
def cartesMakesSpec : ChangeSpec := { name := "cartesMakes", fn := fun _ => fun
  | [d1, d2, d3, d4, d5] => { results := [.lit (.bool true)], args := [d1, d2, d3, d4, d5] }
  | _ => none }
def cartesMakesRow : OpenClaim := { program := "ytoakhncbmpdacaa", sum := "45bd490896ecfc484c557bc2e41527ce15ecb16da5e29aec05ed73b0121fff84", func := "peloton/pelotonlaw11.CartesMakes", spec := "cartesMakes", inPlace := ["math/bits.Add64"], unfollowed := true, recurses := true, apart := false }
def CartesMakesSaid : Prop := cartesMakesRow.holds Try.pinned (OpenSpec.ofChange cartesMakesSpec)

/-- ITS FALSE NEIGHBOUR: 'it returns false'. Refute it at one input. -/
def cartesMakesWrong : ChangeSpec := { name := "cartesMakes", fn := fun _ => fun
  | [d1, d2, d3, d4, d5] => { results := [.lit (.bool false)], args := [d1, d2, d3, d4, d5] }
  | _ => none }
def CartesMakesWrongFalsely : Prop := cartesMakesRow.holds Try.pinned (OpenSpec.ofChange cartesMakesWrong)

/-- 'pelotonlaw11.CartesCuts': WHATEVER THE INPUT: true; the input reads as it did. -/
def cartesCutsSpec : ChangeSpec := { name := "cartesCuts", fn := fun _ => fun
  | [d1, d2, d3, d4, d5] => { results := [.lit (.bool true)], args := [d1, d2, d3, d4, d5] }
  | _ => none }
def cartesCutsRow : OpenClaim := { program := "ytoakhncbmpdacaa", sum := "45bd490896ecfc484c557bc2e41527ce15ecb16da5e29aec05ed73b0121fff84", func := "peloton/pelotonlaw11.CartesCuts", spec := "cartesCuts", inPlace := ["math/bits.Add64"], unfollowed := true, recurses := true, apart := false }
def CartesCutsSaid : Prop := cartesCutsRow.holds Try.pinned (OpenSpec.ofChange cartesCutsSpec)

/-- ITS FALSE NEIGHBOUR: 'it returns false'. Refute it at one input. -/
def cartesCutsWrong : ChangeSpec := { name := "cartesCuts", fn := fun _ => fun
  | [d1, d2, d3, d4, d5] => { results := [.lit (.bool false)], args := [d1, d2, d3, d4, d5] }
  | _ => none }
def CartesCutsWrongFalsely : Prop := cartesCutsRow.holds Try.pinned (OpenSpec.ofChange cartesCutsWrong)

/-- 'pelotonlaw11.CartesOne': WHATEVER THE INPUT: true; the input reads as it did. -/
def cartesOneSpec : ChangeSpec := { name := "cartesOne", fn := fun _ => fun
  | [d1, d2, d3] => { results := [.lit (.bool true)], args := [d1, d2, d3] }
  | _ => none }
def cartesOneRow : OpenClaim := { program := "ytoakhncbmpdacaa", sum := "45bd490896ecfc484c557bc2e41527ce15ecb16da5e29aec05ed73b0121fff84", func := "peloton/pelotonlaw11.CartesOne", spec := "cartesOne", inPlace := ["math/bits.Add64"], unfollowed := true, recurses := true, apart := false }
def CartesOneSaid : Prop := cartesOneRow.holds Try.pinned (OpenSpec.ofChange cartesOneSpec)

/-- ITS FALSE NEIGHBOUR: 'it returns false'. Refute it at one input. -/
def cartesOneWrong : ChangeSpec := { name := "cartesOne", fn := fun _ => fun
  | [d1, d2, d3] => { results := [.lit (.bool false)], args := [d1, d2, d3] }
  | _ => none }
def CartesOneWrongFalsely : Prop := cartesOneRow.holds Try.pinned (OpenSpec.ofChange cartesOneWrong)

/-- 'pelotonlaw11.CartesParts': WHATEVER THE INPUT: true; the input reads as it did. -/
def cartesPartsSpec : ChangeSpec := { name := "cartesParts", fn := fun _ => fun
  | [d1, d2, d3] => { results := [.lit (.bool true)], args := [d1, d2, d3] }
  | _ => none }
def cartesPartsRow : OpenClaim := { program := "ytoakhncbmpdacaa", sum := "45bd490896ecfc484c557bc2e41527ce15ecb16da5e29aec05ed73b0121fff84", func := "peloton/pelotonlaw11.CartesParts", spec := "cartesParts", inPlace := ["math/bits.Add64"], unfollowed := true, recurses := true, apart := false }
def CartesPartsSaid : Prop := cartesPartsRow.holds Try.pinned (OpenSpec.ofChange cartesPartsSpec)

/-- ITS FALSE NEIGHBOUR: 'it returns false'. Refute it at one input. -/
def cartesPartsWrong : ChangeSpec := { name := "cartesParts", fn := fun _ => fun
  | [d1, d2, d3] => { results := [.lit (.bool false)], args := [d1, d2, d3] }
  | _ => none }
def CartesPartsWrongFalsely : Prop := cartesPartsRow.holds Try.pinned (OpenSpec.ofChange cartesPartsWrong)

/-- 'pelotonlaw11.CartesNames': WHATEVER THE INPUT: true; the input reads as it did. -/
def cartesNamesSpec : ChangeSpec := { name := "cartesNames", fn := fun _ => fun
  | [] => { results := [.lit (.bool true)], args := [] }
  | _ => none }
def cartesNamesRow : OpenClaim := { program := "ytoakhncbmpdacaa", sum := "45bd490896ecfc484c557bc2e41527ce15ecb16da5e29aec05ed73b0121fff84", func := "peloton/pelotonlaw11.CartesNames", spec := "cartesNames", inPlace := ["math/bits.Add64"], unfollowed := true, recurses := true, apart := false }
def CartesNamesSaid : Prop := cartesNamesRow.holds Try.pinned (OpenSpec.ofChange cartesNamesSpec)

/-- ITS FALSE NEIGHBOUR: 'it returns false'. Refute it at one input. -/
def cartesNamesWrong : ChangeSpec := { name := "cartesNames", fn := fun _ => fun
  | [] => { results := [.lit (.bool false)], args := [] }
  | _ => none }
def CartesNamesWrongFalsely : Prop := cartesNamesRow.holds Try.pinned (OpenSpec.ofChange cartesNamesWrong)

/-- 'pelotonlaw11.CartesTop': WHATEVER THE INPUT: true; the input reads as it did. -/
def cartesTopSpec : ChangeSpec := { name := "cartesTop", fn := fun _ => fun
  | [d1, d2, d3] => { results := [.lit (.bool true)], args := [d1, d2, d3] }
  | _ => none }
def cartesTopRow : OpenClaim := { program := "ytoakhncbmpdacaa", sum := "45bd490896ecfc484c557bc2e41527ce15ecb16da5e29aec05ed73b0121fff84", func := "peloton/pelotonlaw11.CartesTop", spec := "cartesTop", inPlace := ["math/bits.Add64"], unfollowed := true, recurses := true, apart := false }
def CartesTopSaid : Prop := cartesTopRow.holds Try.pinned (OpenSpec.ofChange cartesTopSpec)

/-- ITS FALSE NEIGHBOUR: 'it returns false'. Refute it at one input. -/
def cartesTopWrong : ChangeSpec := { name := "cartesTop", fn := fun _ => fun
  | [d1, d2, d3] => { results := [.lit (.bool false)], args := [d1, d2, d3] }
  | _ => none }
def CartesTopWrongFalsely : Prop := cartesTopRow.holds Try.pinned (OpenSpec.ofChange cartesTopWrong)

/- THE SECOND FORM. 'bulk': how many values and letters a reading holds, each counted each time it is reached (what is shared counts as often as it is met; a slice's spare places count too). A statement '..UptoSaid' is the law's where the arguments, and the package variables that the reading takes, are together of bulk at most 1048576: NARROWER than '..Said'. Prove '..Said' where nothing that the law and all that it calls make is longer than what came in: it says more and counts as full. Else prove '..UptoSaid'. A law counts once. -/
mutual
def uptoBulk {H : Type} : DataW H → Nat
  | .lit (.string bytes) => bytes.length + 1
  | .lit _ => 1
  | .nil => 1
  | .ptr d => uptoBulk d + 1
  | .slice elems spare => uptoBulkAll elems + uptoBulkAll spare + 1
  | .agg parts => uptoBulkAll parts + 1
  | .iface _ d => uptoBulk d + 1
  | .map entries => uptoBulkEntries entries + 1
  | .held _ => 1
def uptoBulkAll {H : Type} : List (DataW H) → Nat
  | [] => 0
  | d :: r => uptoBulk d + uptoBulkAll r
def uptoBulkEntries {H : Type} : List (Lit × DataW H) → Nat
  | [] => 0
  | x :: r => uptoBulkEntry x + uptoBulkEntries r
def uptoBulkEntry {H : Type} : Lit × DataW H → Nat
  | (.string bytes, d) => bytes.length + uptoBulk d + 1
  | (_, d) => uptoBulk d + 1
 end
def uptoSmall : (H : Type) → List (DataW H) → Bool := fun _ ds => decide (uptoBulkAll ds ≤ 1048576)
def OpenSpec.upto (s : _root_.Go.ChangeSpec) : _root_.Go.OpenSpec := { _root_.Go.OpenSpec.ofChange s with cond := some uptoSmall }

/-- 'pelotonlaw11.CartesMakes', WHERE WHAT IT READS IS OF BULK AT MOST 1048576: true; the input reads as it did. -/
def cartesMakesUptoRow : OpenClaim := { program := "ytoakhncbmpdacaa", sum := "45bd490896ecfc484c557bc2e41527ce15ecb16da5e29aec05ed73b0121fff84", func := "peloton/pelotonlaw11.CartesMakes", spec := "cartesMakes", inPlace := ["math/bits.Add64"], unfollowed := true, recurses := true, apart := false, narrowed := true }
def CartesMakesUptoSaid : Prop := cartesMakesUptoRow.holds Try.pinned (OpenSpec.upto cartesMakesSpec)

/-- 'pelotonlaw11.CartesCuts', WHERE WHAT IT READS IS OF BULK AT MOST 1048576: true; the input reads as it did. -/
def cartesCutsUptoRow : OpenClaim := { program := "ytoakhncbmpdacaa", sum := "45bd490896ecfc484c557bc2e41527ce15ecb16da5e29aec05ed73b0121fff84", func := "peloton/pelotonlaw11.CartesCuts", spec := "cartesCuts", inPlace := ["math/bits.Add64"], unfollowed := true, recurses := true, apart := false, narrowed := true }
def CartesCutsUptoSaid : Prop := cartesCutsUptoRow.holds Try.pinned (OpenSpec.upto cartesCutsSpec)

/-- 'pelotonlaw11.CartesOne', WHERE WHAT IT READS IS OF BULK AT MOST 1048576: true; the input reads as it did. -/
def cartesOneUptoRow : OpenClaim := { program := "ytoakhncbmpdacaa", sum := "45bd490896ecfc484c557bc2e41527ce15ecb16da5e29aec05ed73b0121fff84", func := "peloton/pelotonlaw11.CartesOne", spec := "cartesOne", inPlace := ["math/bits.Add64"], unfollowed := true, recurses := true, apart := false, narrowed := true }
def CartesOneUptoSaid : Prop := cartesOneUptoRow.holds Try.pinned (OpenSpec.upto cartesOneSpec)

/-- 'pelotonlaw11.CartesParts', WHERE WHAT IT READS IS OF BULK AT MOST 1048576: true; the input reads as it did. -/
def cartesPartsUptoRow : OpenClaim := { program := "ytoakhncbmpdacaa", sum := "45bd490896ecfc484c557bc2e41527ce15ecb16da5e29aec05ed73b0121fff84", func := "peloton/pelotonlaw11.CartesParts", spec := "cartesParts", inPlace := ["math/bits.Add64"], unfollowed := true, recurses := true, apart := false, narrowed := true }
def CartesPartsUptoSaid : Prop := cartesPartsUptoRow.holds Try.pinned (OpenSpec.upto cartesPartsSpec)

/-- 'pelotonlaw11.CartesNames', WHERE WHAT IT READS IS OF BULK AT MOST 1048576: true; the input reads as it did. -/
def cartesNamesUptoRow : OpenClaim := { program := "ytoakhncbmpdacaa", sum := "45bd490896ecfc484c557bc2e41527ce15ecb16da5e29aec05ed73b0121fff84", func := "peloton/pelotonlaw11.CartesNames", spec := "cartesNames", inPlace := ["math/bits.Add64"], unfollowed := true, recurses := true, apart := false, narrowed := true }
def CartesNamesUptoSaid : Prop := cartesNamesUptoRow.holds Try.pinned (OpenSpec.upto cartesNamesSpec)

/-- 'pelotonlaw11.CartesTop', WHERE WHAT IT READS IS OF BULK AT MOST 1048576: true; the input reads as it did. -/
def cartesTopUptoRow : OpenClaim := { program := "ytoakhncbmpdacaa", sum := "45bd490896ecfc484c557bc2e41527ce15ecb16da5e29aec05ed73b0121fff84", func := "peloton/pelotonlaw11.CartesTop", spec := "cartesTop", inPlace := ["math/bits.Add64"], unfollowed := true, recurses := true, apart := false, narrowed := true }
def CartesTopUptoSaid : Prop := cartesTopUptoRow.holds Try.pinned (OpenSpec.upto cartesTopSpec)

end Rows
end Go.Proofs.Ytoakhncbmpdacaa
