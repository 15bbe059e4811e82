/-
  No cell of these rows narrows 'for every input' (looked for: loops, veiled, ifaces, maps, wideKeys, modest, calm, conditions, laid).
  DERIVED. THE GIVEN ROWS OF THIS SEAT. 6 by the template 'for every input the law returns true; each argument reads behind the call as it read before'; 0 by the template 'total and deterministic' (their statements: YtijinelgbiombaaTotals.lean).
  GIVEN WITH THE SEED: the statements are not yours to turn. If you find one false, say at which input.
  Laid BY PROGRAM, IN A SANDBOX (cutbox-rows.mjs): the forced cells as the released guide's own fill.sh prints them over the translation 02101ee90dc11be9… (all of the seat's roots in one cut). By AI agents, Wed Nov 11 2026. No macro, syntax, notation, axiom, sorry.
-/
import Derived.Test.YtijinelgbiombaaChecked
import GoSem.Claim
import GoSem.ClaimJoined
import GoSem.ClaimMapViews
import Derived.JoinedTies
import Derived.KernelRfl
namespace Go.Proofs.Ytijinelgbiombaa
/- THE CELL 'sum', in the pinned program and in every row, IS THE sha256 OF THE DUMP (.gsa) THAT YtijinelgbiombaaProg.lean LOADS. Nothing in Lean hashes anything: it is a label: what it is worth is what the hold of that sum in a sandbox is worth. -/
noncomputable def Try.pinned : Pinned := { name := "ytijinelgbiombaa", sum := "02101ee90dc11be900d0ab5d5eac530ea265795a2d07d5927083e5b0d1c9370b", checked := Try.checked }
namespace Rows
def none {H : Type} : Left H := { results := [], args := [] }

/-- 'pelotonlaw36.DecodeOnes': WHATEVER THE INPUT: true; the input reads as it did. -/
def decodeOnesSpec : ChangeSpec := { name := "decodeOnes", fn := fun _ => fun
  | [d1, d2] => { results := [.lit (.bool true)], args := [d1, d2] }
  | _ => none }
def decodeOnesRow : OpenClaim := { program := "ytijinelgbiombaa", sum := "02101ee90dc11be900d0ab5d5eac530ea265795a2d07d5927083e5b0d1c9370b", func := "peloton/pelotonlaw36.DecodeOnes", spec := "decodeOnes", unfollowed := true, recurses := true, apart := false }
def DecodeOnesSaid : Prop := decodeOnesRow.holds Try.pinned (OpenSpec.ofChange decodeOnesSpec)

/-- ITS FALSE NEIGHBOUR: 'it returns false'. Refute it at one input. -/
def decodeOnesWrong : ChangeSpec := { name := "decodeOnes", fn := fun _ => fun
  | [d1, d2] => { results := [.lit (.bool false)], args := [d1, d2] }
  | _ => none }
def DecodeOnesWrongFalsely : Prop := decodeOnesRow.holds Try.pinned (OpenSpec.ofChange decodeOnesWrong)

/-- 'pelotonlaw36.DecodeBack': WHATEVER THE INPUT: true; the input reads as it did. -/
def decodeBackSpec : ChangeSpec := { name := "decodeBack", fn := fun _ => fun
  | [d1, d2] => { results := [.lit (.bool true)], args := [d1, d2] }
  | _ => none }
def decodeBackRow : OpenClaim := { program := "ytijinelgbiombaa", sum := "02101ee90dc11be900d0ab5d5eac530ea265795a2d07d5927083e5b0d1c9370b", func := "peloton/pelotonlaw36.DecodeBack", spec := "decodeBack", unfollowed := true, recurses := true, apart := false }
def DecodeBackSaid : Prop := decodeBackRow.holds Try.pinned (OpenSpec.ofChange decodeBackSpec)

/-- ITS FALSE NEIGHBOUR: 'it returns false'. Refute it at one input. -/
def decodeBackWrong : ChangeSpec := { name := "decodeBack", fn := fun _ => fun
  | [d1, d2] => { results := [.lit (.bool false)], args := [d1, d2] }
  | _ => none }
def DecodeBackWrongFalsely : Prop := decodeBackRow.holds Try.pinned (OpenSpec.ofChange decodeBackWrong)

/-- 'pelotonlaw36.DecodeLists': WHATEVER THE INPUT: true; the input reads as it did. -/
def decodeListsSpec : ChangeSpec := { name := "decodeLists", fn := fun _ => fun
  | [d1, d2] => { results := [.lit (.bool true)], args := [d1, d2] }
  | _ => none }
def decodeListsRow : OpenClaim := { program := "ytijinelgbiombaa", sum := "02101ee90dc11be900d0ab5d5eac530ea265795a2d07d5927083e5b0d1c9370b", func := "peloton/pelotonlaw36.DecodeLists", spec := "decodeLists", unfollowed := true, recurses := true, apart := false }
def DecodeListsSaid : Prop := decodeListsRow.holds Try.pinned (OpenSpec.ofChange decodeListsSpec)

/-- ITS FALSE NEIGHBOUR: 'it returns false'. Refute it at one input. -/
def decodeListsWrong : ChangeSpec := { name := "decodeLists", fn := fun _ => fun
  | [d1, d2] => { results := [.lit (.bool false)], args := [d1, d2] }
  | _ => none }
def DecodeListsWrongFalsely : Prop := decodeListsRow.holds Try.pinned (OpenSpec.ofChange decodeListsWrong)

/-- 'pelotonlaw36.DecodeNames': WHATEVER THE INPUT: true; the input reads as it did. -/
def decodeNamesSpec : ChangeSpec := { name := "decodeNames", fn := fun _ => fun
  | [] => { results := [.lit (.bool true)], args := [] }
  | _ => none }
def decodeNamesRow : OpenClaim := { program := "ytijinelgbiombaa", sum := "02101ee90dc11be900d0ab5d5eac530ea265795a2d07d5927083e5b0d1c9370b", func := "peloton/pelotonlaw36.DecodeNames", spec := "decodeNames", unfollowed := true, recurses := true, apart := false }
def DecodeNamesSaid : Prop := decodeNamesRow.holds Try.pinned (OpenSpec.ofChange decodeNamesSpec)

/-- ITS FALSE NEIGHBOUR: 'it returns false'. Refute it at one input. -/
def decodeNamesWrong : ChangeSpec := { name := "decodeNames", fn := fun _ => fun
  | [] => { results := [.lit (.bool false)], args := [] }
  | _ => none }
def DecodeNamesWrongFalsely : Prop := decodeNamesRow.holds Try.pinned (OpenSpec.ofChange decodeNamesWrong)

/-- 'pelotonlaw36.DecodeWrites': WHATEVER THE INPUT: true; the input reads as it did. -/
def decodeWritesSpec : ChangeSpec := { name := "decodeWrites", fn := fun _ => fun
  | [d1, d2, d3] => { results := [.lit (.bool true)], args := [d1, d2, d3] }
  | _ => none }
def decodeWritesRow : OpenClaim := { program := "ytijinelgbiombaa", sum := "02101ee90dc11be900d0ab5d5eac530ea265795a2d07d5927083e5b0d1c9370b", func := "peloton/pelotonlaw36.DecodeWrites", spec := "decodeWrites", unfollowed := true, recurses := true, apart := false }
def DecodeWritesSaid : Prop := decodeWritesRow.holds Try.pinned (OpenSpec.ofChange decodeWritesSpec)

/-- ITS FALSE NEIGHBOUR: 'it returns false'. Refute it at one input. -/
def decodeWritesWrong : ChangeSpec := { name := "decodeWrites", fn := fun _ => fun
  | [d1, d2, d3] => { results := [.lit (.bool false)], args := [d1, d2, d3] }
  | _ => none }
def DecodeWritesWrongFalsely : Prop := decodeWritesRow.holds Try.pinned (OpenSpec.ofChange decodeWritesWrong)

/-- 'pelotonlaw36.DecodeWild': WHATEVER THE INPUT: true; the input reads as it did. -/
def decodeWildSpec : ChangeSpec := { name := "decodeWild", fn := fun _ => fun
  | [d1, d2] => { results := [.lit (.bool true)], args := [d1, d2] }
  | _ => none }
def decodeWildRow : OpenClaim := { program := "ytijinelgbiombaa", sum := "02101ee90dc11be900d0ab5d5eac530ea265795a2d07d5927083e5b0d1c9370b", func := "peloton/pelotonlaw36.DecodeWild", spec := "decodeWild", unfollowed := true, recurses := true, apart := false }
def DecodeWildSaid : Prop := decodeWildRow.holds Try.pinned (OpenSpec.ofChange decodeWildSpec)

/-- ITS FALSE NEIGHBOUR: 'it returns false'. Refute it at one input. -/
def decodeWildWrong : ChangeSpec := { name := "decodeWild", fn := fun _ => fun
  | [d1, d2] => { results := [.lit (.bool false)], args := [d1, d2] }
  | _ => none }
def DecodeWildWrongFalsely : Prop := decodeWildRow.holds Try.pinned (OpenSpec.ofChange decodeWildWrong)

/- THE SECOND FORM. 'bulk': how many values and letters a reading holds, each counted each time it is reached (what is shared counts as often as it is met; a slice's spare places count too). A statement '..UptoSaid' is the law's where the arguments, and the package variables that the reading takes, are together of bulk at most 1048576: NARROWER than '..Said'. Prove '..Said' where nothing that the law and all that it calls make is longer than what came in: it says more and counts as full. Else prove '..UptoSaid'. A law counts once. -/
mutual
def uptoBulk {H : Type} : DataW H → Nat
  | .lit (.string bytes) => bytes.length + 1
  | .lit _ => 1
  | .nil => 1
  | .ptr d => uptoBulk d + 1
  | .slice elems spare => uptoBulkAll elems + uptoBulkAll spare + 1
  | .agg parts => uptoBulkAll parts + 1
  | .iface _ d => uptoBulk d + 1
  | .map entries => uptoBulkEntries entries + 1
  | .held _ => 1
def uptoBulkAll {H : Type} : List (DataW H) → Nat
  | [] => 0
  | d :: r => uptoBulk d + uptoBulkAll r
def uptoBulkEntries {H : Type} : List (Lit × DataW H) → Nat
  | [] => 0
  | x :: r => uptoBulkEntry x + uptoBulkEntries r
def uptoBulkEntry {H : Type} : Lit × DataW H → Nat
  | (.string bytes, d) => bytes.length + uptoBulk d + 1
  | (_, d) => uptoBulk d + 1
 end
def uptoSmall : (H : Type) → List (DataW H) → Bool := fun _ ds => decide (uptoBulkAll ds ≤ 1048576)
def OpenSpec.upto (s : _root_.Go.ChangeSpec) : _root_.Go.OpenSpec := { _root_.Go.OpenSpec.ofChange s with cond := some uptoSmall }

/-- 'pelotonlaw36.DecodeOnes', WHERE WHAT IT READS IS OF BULK AT MOST 1048576: true; the input reads as it did. -/
def decodeOnesUptoRow : OpenClaim := { program := "ytijinelgbiombaa", sum := "02101ee90dc11be900d0ab5d5eac530ea265795a2d07d5927083e5b0d1c9370b", func := "peloton/pelotonlaw36.DecodeOnes", spec := "decodeOnes", unfollowed := true, recurses := true, apart := false, narrowed := true }
def DecodeOnesUptoSaid : Prop := decodeOnesUptoRow.holds Try.pinned (OpenSpec.upto decodeOnesSpec)

/-- 'pelotonlaw36.DecodeBack', WHERE WHAT IT READS IS OF BULK AT MOST 1048576: true; the input reads as it did. -/
def decodeBackUptoRow : OpenClaim := { program := "ytijinelgbiombaa", sum := "02101ee90dc11be900d0ab5d5eac530ea265795a2d07d5927083e5b0d1c9370b", func := "peloton/pelotonlaw36.DecodeBack", spec := "decodeBack", unfollowed := true, recurses := true, apart := false, narrowed := true }
def DecodeBackUptoSaid : Prop := decodeBackUptoRow.holds Try.pinned (OpenSpec.upto decodeBackSpec)

/-- 'pelotonlaw36.DecodeLists', WHERE WHAT IT READS IS OF BULK AT MOST 1048576: true; the input reads as it did. -/
def decodeListsUptoRow : OpenClaim := { program := "ytijinelgbiombaa", sum := "02101ee90dc11be900d0ab5d5eac530ea265795a2d07d5927083e5b0d1c9370b", func := "peloton/pelotonlaw36.DecodeLists", spec := "decodeLists", unfollowed := true, recurses := true, apart := false, narrowed := true }
def DecodeListsUptoSaid : Prop := decodeListsUptoRow.holds Try.pinned (OpenSpec.upto decodeListsSpec)

/-- 'pelotonlaw36.DecodeNames', WHERE WHAT IT READS IS OF BULK AT MOST 1048576: true; the input reads as it did. -/
def decodeNamesUptoRow : OpenClaim := { program := "ytijinelgbiombaa", sum := "02101ee90dc11be900d0ab5d5eac530ea265795a2d07d5927083e5b0d1c9370b", func := "peloton/pelotonlaw36.DecodeNames", spec := "decodeNames", unfollowed := true, recurses := true, apart := false, narrowed := true }
def DecodeNamesUptoSaid : Prop := decodeNamesUptoRow.holds Try.pinned (OpenSpec.upto decodeNamesSpec)

/-- 'pelotonlaw36.DecodeWrites', WHERE WHAT IT READS IS OF BULK AT MOST 1048576: true; the input reads as it did. -/
def decodeWritesUptoRow : OpenClaim := { program := "ytijinelgbiombaa", sum := "02101ee90dc11be900d0ab5d5eac530ea265795a2d07d5927083e5b0d1c9370b", func := "peloton/pelotonlaw36.DecodeWrites", spec := "decodeWrites", unfollowed := true, recurses := true, apart := false, narrowed := true }
def DecodeWritesUptoSaid : Prop := decodeWritesUptoRow.holds Try.pinned (OpenSpec.upto decodeWritesSpec)

/-- 'pelotonlaw36.DecodeWild', WHERE WHAT IT READS IS OF BULK AT MOST 1048576: true; the input reads as it did. -/
def decodeWildUptoRow : OpenClaim := { program := "ytijinelgbiombaa", sum := "02101ee90dc11be900d0ab5d5eac530ea265795a2d07d5927083e5b0d1c9370b", func := "peloton/pelotonlaw36.DecodeWild", spec := "decodeWild", unfollowed := true, recurses := true, apart := false, narrowed := true }
def DecodeWildUptoSaid : Prop := decodeWildUptoRow.holds Try.pinned (OpenSpec.upto decodeWildSpec)

end Rows
end Go.Proofs.Ytijinelgbiombaa
