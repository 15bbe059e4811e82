/-
  No cell of these rows narrows 'for every input' (looked for: loops, veiled, ifaces, maps, wideKeys, modest, calm, conditions, laid).
  DERIVED. THE GIVEN ROWS OF THIS SEAT. 7 by the template 'for every input the law returns true; each argument reads behind the call as it read before'; 0 by the template 'total and deterministic' (their statements: YtpfhgnccpiildaaGreatTotals.lean).
  GIVEN WITH THE SEED: the statements are not yours to turn. If you find one false, say at which input.
  Laid BY PROGRAM, IN A SANDBOX (cutbox-rows.mjs): the forced cells as the released guide's own fill.sh prints them over the translation b91e2dcdae0f2196… (all of the seat's roots in one cut). By AI agents, Wed Nov 11 2026. No macro, syntax, notation, axiom, sorry.
-/
import Derived.Test.YtpfhgnccpiildaaGreatChecked
import GoSem.Claim
import GoSem.ClaimJoined
import GoSem.ClaimMapViews
import Derived.JoinedTies
import Derived.KernelRfl
namespace Go.Proofs.YtpfhgnccpiildaaGreat
/- THE CELL 'sum', in the pinned program and in every row, IS THE sha256 OF THE DUMP (.gsa) THAT YtpfhgnccpiildaaGreatProg.lean LOADS. Nothing in Lean hashes anything: it is a label: what it is worth is what the hold of that sum in a sandbox is worth. -/
noncomputable def Tryz.pinned : Pinned := { name := "ytpfhgnccpiildaagreat", sum := "b91e2dcdae0f2196bcc039b4eba4f52a149d29756ef090a0ab6254006da989d4", checked := Tryz.checked }
namespace Rows
def none {H : Type} : Left H := { results := [], args := [] }

/-- 'pelotontop.TopMoves': WHATEVER THE INPUT: true; the input reads as it did. -/
def topMovesSpec : ChangeSpec := { name := "topMoves", fn := fun _ => fun
  | [d1, d2, d3] => { results := [.lit (.bool true)], args := [d1, d2, d3] }
  | _ => none }
def topMovesRow : OpenClaim := { program := "ytpfhgnccpiildaagreat", sum := "b91e2dcdae0f2196bcc039b4eba4f52a149d29756ef090a0ab6254006da989d4", func := "peloton/pelotontop.TopMoves", spec := "topMoves", inPlace := ["slices.overlaps[peloton/api.Point]", "math/bits.Add64", "math/bits.Sub64"], unfollowed := true, recurses := true, named := ["math/bits.divideError", "math/bits.overflowError"], apart := false }
def TopMovesSaid : Prop := topMovesRow.holds Tryz.pinned (OpenSpec.ofChange topMovesSpec)

/-- ITS FALSE NEIGHBOUR: 'it returns false'. Refute it at one input. -/
def topMovesWrong : ChangeSpec := { name := "topMoves", fn := fun _ => fun
  | [d1, d2, d3] => { results := [.lit (.bool false)], args := [d1, d2, d3] }
  | _ => none }
def TopMovesWrongFalsely : Prop := topMovesRow.holds Tryz.pinned (OpenSpec.ofChange topMovesWrong)

/-- 'pelotonlaw24.RaceTimes': WHATEVER THE INPUT: true; the input reads as it did. -/
def raceTimesSpec : ChangeSpec := { name := "raceTimes", fn := fun _ => fun
  | [d1, d2, d3, d4] => { results := [.lit (.bool true)], args := [d1, d2, d3, d4] }
  | _ => none }
def raceTimesRow : OpenClaim := { program := "ytpfhgnccpiildaagreat", sum := "b91e2dcdae0f2196bcc039b4eba4f52a149d29756ef090a0ab6254006da989d4", func := "peloton/pelotonlaw24.RaceTimes", spec := "raceTimes", inPlace := ["math/bits.Add64", "math/bits.Sub64"], unfollowed := true, recurses := true, named := ["math/bits.divideError", "math/bits.overflowError"], apart := false }
def RaceTimesSaid : Prop := raceTimesRow.holds Tryz.pinned (OpenSpec.ofChange raceTimesSpec)

/-- ITS FALSE NEIGHBOUR: 'it returns false'. Refute it at one input. -/
def raceTimesWrong : ChangeSpec := { name := "raceTimes", fn := fun _ => fun
  | [d1, d2, d3, d4] => { results := [.lit (.bool false)], args := [d1, d2, d3, d4] }
  | _ => none }
def RaceTimesWrongFalsely : Prop := raceTimesRow.holds Tryz.pinned (OpenSpec.ofChange raceTimesWrong)

/-- 'pelotonlaw32.SpreadFinds': WHATEVER THE INPUT: true; the input reads as it did. -/
def spreadFindsSpec : ChangeSpec := { name := "spreadFinds", fn := fun _ => fun
  | [d1, d2, d3] => { results := [.lit (.bool true)], args := [d1, d2, d3] }
  | _ => none }
def spreadFindsRow : OpenClaim := { program := "ytpfhgnccpiildaagreat", sum := "b91e2dcdae0f2196bcc039b4eba4f52a149d29756ef090a0ab6254006da989d4", func := "peloton/pelotonlaw32.SpreadFinds", spec := "spreadFinds", inPlace := ["math/bits.Add64", "math/bits.Sub64"], unfollowed := true, recurses := true, named := ["math/bits.divideError", "math/bits.overflowError"], apart := false }
def SpreadFindsSaid : Prop := spreadFindsRow.holds Tryz.pinned (OpenSpec.ofChange spreadFindsSpec)

/-- ITS FALSE NEIGHBOUR: 'it returns false'. Refute it at one input. -/
def spreadFindsWrong : ChangeSpec := { name := "spreadFinds", fn := fun _ => fun
  | [d1, d2, d3] => { results := [.lit (.bool false)], args := [d1, d2, d3] }
  | _ => none }
def SpreadFindsWrongFalsely : Prop := spreadFindsRow.holds Tryz.pinned (OpenSpec.ofChange spreadFindsWrong)

/-- 'pelotonlaw32.SpreadConvex': WHATEVER THE INPUT: true; the input reads as it did. -/
def spreadConvexSpec : ChangeSpec := { name := "spreadConvex", fn := fun _ => fun
  | [d1, d2, d3] => { results := [.lit (.bool true)], args := [d1, d2, d3] }
  | _ => none }
def spreadConvexRow : OpenClaim := { program := "ytpfhgnccpiildaagreat", sum := "b91e2dcdae0f2196bcc039b4eba4f52a149d29756ef090a0ab6254006da989d4", func := "peloton/pelotonlaw32.SpreadConvex", spec := "spreadConvex", inPlace := ["math/bits.Add64", "math/bits.Sub64"], unfollowed := true, recurses := true, named := ["math/bits.divideError", "math/bits.overflowError"], apart := false }
def SpreadConvexSaid : Prop := spreadConvexRow.holds Tryz.pinned (OpenSpec.ofChange spreadConvexSpec)

/-- ITS FALSE NEIGHBOUR: 'it returns false'. Refute it at one input. -/
def spreadConvexWrong : ChangeSpec := { name := "spreadConvex", fn := fun _ => fun
  | [d1, d2, d3] => { results := [.lit (.bool false)], args := [d1, d2, d3] }
  | _ => none }
def SpreadConvexWrongFalsely : Prop := spreadConvexRow.holds Tryz.pinned (OpenSpec.ofChange spreadConvexWrong)

/-- 'pelotonlaw32.SpreadTurns': WHATEVER THE INPUT: true; the input reads as it did. -/
def spreadTurnsSpec : ChangeSpec := { name := "spreadTurns", fn := fun _ => fun
  | [d1, d2, d3] => { results := [.lit (.bool true)], args := [d1, d2, d3] }
  | _ => none }
def spreadTurnsRow : OpenClaim := { program := "ytpfhgnccpiildaagreat", sum := "b91e2dcdae0f2196bcc039b4eba4f52a149d29756ef090a0ab6254006da989d4", func := "peloton/pelotonlaw32.SpreadTurns", spec := "spreadTurns", inPlace := ["math/bits.Add64", "math/bits.Sub64"], unfollowed := true, recurses := true, named := ["math/bits.divideError", "math/bits.overflowError"], apart := false }
def SpreadTurnsSaid : Prop := spreadTurnsRow.holds Tryz.pinned (OpenSpec.ofChange spreadTurnsSpec)

/-- ITS FALSE NEIGHBOUR: 'it returns false'. Refute it at one input. -/
def spreadTurnsWrong : ChangeSpec := { name := "spreadTurns", fn := fun _ => fun
  | [d1, d2, d3] => { results := [.lit (.bool false)], args := [d1, d2, d3] }
  | _ => none }
def SpreadTurnsWrongFalsely : Prop := spreadTurnsRow.holds Tryz.pinned (OpenSpec.ofChange spreadTurnsWrong)

/-- 'pelotonlaw32.SpreadLeast': WHATEVER THE INPUT: true; the input reads as it did. -/
def spreadLeastSpec : ChangeSpec := { name := "spreadLeast", fn := fun _ => fun
  | [d1, d2, d3] => { results := [.lit (.bool true)], args := [d1, d2, d3] }
  | _ => none }
def spreadLeastRow : OpenClaim := { program := "ytpfhgnccpiildaagreat", sum := "b91e2dcdae0f2196bcc039b4eba4f52a149d29756ef090a0ab6254006da989d4", func := "peloton/pelotonlaw32.SpreadLeast", spec := "spreadLeast", inPlace := ["math/bits.Add64", "math/bits.Sub64"], unfollowed := true, recurses := true, named := ["math/bits.divideError", "math/bits.overflowError"], apart := false }
def SpreadLeastSaid : Prop := spreadLeastRow.holds Tryz.pinned (OpenSpec.ofChange spreadLeastSpec)

/-- ITS FALSE NEIGHBOUR: 'it returns false'. Refute it at one input. -/
def spreadLeastWrong : ChangeSpec := { name := "spreadLeast", fn := fun _ => fun
  | [d1, d2, d3] => { results := [.lit (.bool false)], args := [d1, d2, d3] }
  | _ => none }
def SpreadLeastWrongFalsely : Prop := spreadLeastRow.holds Tryz.pinned (OpenSpec.ofChange spreadLeastWrong)

/-- 'pelotonlaw32.SpreadPoints': WHATEVER THE INPUT: true; the input reads as it did. -/
def spreadPointsSpec : ChangeSpec := { name := "spreadPoints", fn := fun _ => fun
  | [d1, d2, d3] => { results := [.lit (.bool true)], args := [d1, d2, d3] }
  | _ => none }
def spreadPointsRow : OpenClaim := { program := "ytpfhgnccpiildaagreat", sum := "b91e2dcdae0f2196bcc039b4eba4f52a149d29756ef090a0ab6254006da989d4", func := "peloton/pelotonlaw32.SpreadPoints", spec := "spreadPoints", inPlace := ["math/bits.Add64", "math/bits.Sub64"], unfollowed := true, recurses := true, named := ["math/bits.divideError", "math/bits.overflowError"], apart := false }
def SpreadPointsSaid : Prop := spreadPointsRow.holds Tryz.pinned (OpenSpec.ofChange spreadPointsSpec)

/-- ITS FALSE NEIGHBOUR: 'it returns false'. Refute it at one input. -/
def spreadPointsWrong : ChangeSpec := { name := "spreadPoints", fn := fun _ => fun
  | [d1, d2, d3] => { results := [.lit (.bool false)], args := [d1, d2, d3] }
  | _ => none }
def SpreadPointsWrongFalsely : Prop := spreadPointsRow.holds Tryz.pinned (OpenSpec.ofChange spreadPointsWrong)

/- THE SECOND FORM. 'bulk': how many values and letters a reading holds, each counted each time it is reached (what is shared counts as often as it is met; a slice's spare places count too). A statement '..UptoSaid' is the law's where the arguments, and the package variables that the reading takes, are together of bulk at most 1048576: NARROWER than '..Said'. Prove '..Said' where nothing that the law and all that it calls make is longer than what came in: it says more and counts as full. Else prove '..UptoSaid'. A law counts once. -/
mutual
def uptoBulk {H : Type} : DataW H → Nat
  | .lit (.string bytes) => bytes.length + 1
  | .lit _ => 1
  | .nil => 1
  | .ptr d => uptoBulk d + 1
  | .slice elems spare => uptoBulkAll elems + uptoBulkAll spare + 1
  | .agg parts => uptoBulkAll parts + 1
  | .iface _ d => uptoBulk d + 1
  | .map entries => uptoBulkEntries entries + 1
  | .held _ => 1
def uptoBulkAll {H : Type} : List (DataW H) → Nat
  | [] => 0
  | d :: r => uptoBulk d + uptoBulkAll r
def uptoBulkEntries {H : Type} : List (Lit × DataW H) → Nat
  | [] => 0
  | x :: r => uptoBulkEntry x + uptoBulkEntries r
def uptoBulkEntry {H : Type} : Lit × DataW H → Nat
  | (.string bytes, d) => bytes.length + uptoBulk d + 1
  | (_, d) => uptoBulk d + 1
 end
def uptoSmall : (H : Type) → List (DataW H) → Bool := fun _ ds => decide (uptoBulkAll ds ≤ 1048576)
def OpenSpec.upto (s : _root_.Go.ChangeSpec) : _root_.Go.OpenSpec := { _root_.Go.OpenSpec.ofChange s with cond := some uptoSmall }

/-- 'pelotontop.TopMoves', WHERE WHAT IT READS IS OF BULK AT MOST 1048576: true; the input reads as it did. -/
def topMovesUptoRow : OpenClaim := { program := "ytpfhgnccpiildaagreat", sum := "b91e2dcdae0f2196bcc039b4eba4f52a149d29756ef090a0ab6254006da989d4", func := "peloton/pelotontop.TopMoves", spec := "topMoves", inPlace := ["slices.overlaps[peloton/api.Point]", "math/bits.Add64", "math/bits.Sub64"], unfollowed := true, recurses := true, named := ["math/bits.divideError", "math/bits.overflowError"], apart := false, narrowed := true }
def TopMovesUptoSaid : Prop := topMovesUptoRow.holds Tryz.pinned (OpenSpec.upto topMovesSpec)

/-- 'pelotonlaw24.RaceTimes', WHERE WHAT IT READS IS OF BULK AT MOST 1048576: true; the input reads as it did. -/
def raceTimesUptoRow : OpenClaim := { program := "ytpfhgnccpiildaagreat", sum := "b91e2dcdae0f2196bcc039b4eba4f52a149d29756ef090a0ab6254006da989d4", func := "peloton/pelotonlaw24.RaceTimes", spec := "raceTimes", inPlace := ["math/bits.Add64", "math/bits.Sub64"], unfollowed := true, recurses := true, named := ["math/bits.divideError", "math/bits.overflowError"], apart := false, narrowed := true }
def RaceTimesUptoSaid : Prop := raceTimesUptoRow.holds Tryz.pinned (OpenSpec.upto raceTimesSpec)

/-- 'pelotonlaw32.SpreadFinds', WHERE WHAT IT READS IS OF BULK AT MOST 1048576: true; the input reads as it did. -/
def spreadFindsUptoRow : OpenClaim := { program := "ytpfhgnccpiildaagreat", sum := "b91e2dcdae0f2196bcc039b4eba4f52a149d29756ef090a0ab6254006da989d4", func := "peloton/pelotonlaw32.SpreadFinds", spec := "spreadFinds", inPlace := ["math/bits.Add64", "math/bits.Sub64"], unfollowed := true, recurses := true, named := ["math/bits.divideError", "math/bits.overflowError"], apart := false, narrowed := true }
def SpreadFindsUptoSaid : Prop := spreadFindsUptoRow.holds Tryz.pinned (OpenSpec.upto spreadFindsSpec)

/-- 'pelotonlaw32.SpreadConvex', WHERE WHAT IT READS IS OF BULK AT MOST 1048576: true; the input reads as it did. -/
def spreadConvexUptoRow : OpenClaim := { program := "ytpfhgnccpiildaagreat", sum := "b91e2dcdae0f2196bcc039b4eba4f52a149d29756ef090a0ab6254006da989d4", func := "peloton/pelotonlaw32.SpreadConvex", spec := "spreadConvex", inPlace := ["math/bits.Add64", "math/bits.Sub64"], unfollowed := true, recurses := true, named := ["math/bits.divideError", "math/bits.overflowError"], apart := false, narrowed := true }
def SpreadConvexUptoSaid : Prop := spreadConvexUptoRow.holds Tryz.pinned (OpenSpec.upto spreadConvexSpec)

/-- 'pelotonlaw32.SpreadTurns', WHERE WHAT IT READS IS OF BULK AT MOST 1048576: true; the input reads as it did. -/
def spreadTurnsUptoRow : OpenClaim := { program := "ytpfhgnccpiildaagreat", sum := "b91e2dcdae0f2196bcc039b4eba4f52a149d29756ef090a0ab6254006da989d4", func := "peloton/pelotonlaw32.SpreadTurns", spec := "spreadTurns", inPlace := ["math/bits.Add64", "math/bits.Sub64"], unfollowed := true, recurses := true, named := ["math/bits.divideError", "math/bits.overflowError"], apart := false, narrowed := true }
def SpreadTurnsUptoSaid : Prop := spreadTurnsUptoRow.holds Tryz.pinned (OpenSpec.upto spreadTurnsSpec)

/-- 'pelotonlaw32.SpreadLeast', WHERE WHAT IT READS IS OF BULK AT MOST 1048576: true; the input reads as it did. -/
def spreadLeastUptoRow : OpenClaim := { program := "ytpfhgnccpiildaagreat", sum := "b91e2dcdae0f2196bcc039b4eba4f52a149d29756ef090a0ab6254006da989d4", func := "peloton/pelotonlaw32.SpreadLeast", spec := "spreadLeast", inPlace := ["math/bits.Add64", "math/bits.Sub64"], unfollowed := true, recurses := true, named := ["math/bits.divideError", "math/bits.overflowError"], apart := false, narrowed := true }
def SpreadLeastUptoSaid : Prop := spreadLeastUptoRow.holds Tryz.pinned (OpenSpec.upto spreadLeastSpec)

/-- 'pelotonlaw32.SpreadPoints', WHERE WHAT IT READS IS OF BULK AT MOST 1048576: true; the input reads as it did. -/
def spreadPointsUptoRow : OpenClaim := { program := "ytpfhgnccpiildaagreat", sum := "b91e2dcdae0f2196bcc039b4eba4f52a149d29756ef090a0ab6254006da989d4", func := "peloton/pelotonlaw32.SpreadPoints", spec := "spreadPoints", inPlace := ["math/bits.Add64", "math/bits.Sub64"], unfollowed := true, recurses := true, named := ["math/bits.divideError", "math/bits.overflowError"], apart := false, narrowed := true }
def SpreadPointsUptoSaid : Prop := spreadPointsUptoRow.holds Tryz.pinned (OpenSpec.upto spreadPointsSpec)

end Rows
end Go.Proofs.YtpfhgnccpiildaaGreat
