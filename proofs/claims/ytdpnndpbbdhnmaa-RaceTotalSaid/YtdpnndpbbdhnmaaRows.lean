/-
  No cell of these rows narrows 'for every input' (looked for: loops, veiled, ifaces, maps, wideKeys, modest, calm, conditions, laid).
  DERIVED. THE GIVEN ROWS OF THIS SEAT. 8 by the template 'for every input the law returns true; each argument reads behind the call as it read before'; 0 by the template 'total and deterministic' (their statements: YtdpnndpbbdhnmaaTotals.lean).
  GIVEN WITH THE SEED: the statements are not yours to turn. If you find one false, say at which input.
  Laid BY PROGRAM, IN A SANDBOX (cutbox-rows.mjs): the forced cells as the released guide's own fill.sh prints them over the translation e9dcb23a9fdda3d9… (all of the seat's roots in one cut). By AI agents, Wed Nov 11 2026. No macro, syntax, notation, axiom, sorry.
-/
import Derived.Test.YtdpnndpbbdhnmaaChecked
import GoSem.Claim
import GoSem.ClaimJoined
import GoSem.ClaimMapViews
import Derived.JoinedTies
import Derived.KernelRfl
namespace Go.Proofs.Ytdpnndpbbdhnmaa
/- THE CELL 'sum', in the pinned program and in every row, IS THE sha256 OF THE DUMP (.gsa) THAT YtdpnndpbbdhnmaaProg.lean LOADS. Nothing in Lean hashes anything: it is a label: what it is worth is what the hold of that sum in a sandbox is worth. -/
noncomputable def Try.pinned : Pinned := { name := "ytdpnndpbbdhnmaa", sum := "e9dcb23a9fdda3d937ade0ec703a4dc0668ae8aee75eac579a5ab15782482b7b", checked := Try.checked }
namespace Rows
def none {H : Type} : Left H := { results := [], args := [] }

/-- 'pelotonlaw05.CrestMakes': WHATEVER THE INPUT: true; the input reads as it did. -/
def crestMakesSpec : ChangeSpec := { name := "crestMakes", fn := fun _ => fun
  | [d1, d2, d3, d4] => { results := [.lit (.bool true)], args := [d1, d2, d3, d4] }
  | _ => none }
def crestMakesRow : OpenClaim := { program := "ytdpnndpbbdhnmaa", sum := "e9dcb23a9fdda3d937ade0ec703a4dc0668ae8aee75eac579a5ab15782482b7b", func := "peloton/pelotonlaw05.CrestMakes", spec := "crestMakes", inPlace := ["math/bits.Add64"], unfollowed := true, recurses := true, apart := false }
def CrestMakesSaid : Prop := crestMakesRow.holds Try.pinned (OpenSpec.ofChange crestMakesSpec)

/-- ITS FALSE NEIGHBOUR: 'it returns false'. Refute it at one input. -/
def crestMakesWrong : ChangeSpec := { name := "crestMakes", fn := fun _ => fun
  | [d1, d2, d3, d4] => { results := [.lit (.bool false)], args := [d1, d2, d3, d4] }
  | _ => none }
def CrestMakesWrongFalsely : Prop := crestMakesRow.holds Try.pinned (OpenSpec.ofChange crestMakesWrong)

/-- 'pelotonlaw05.CrestLater': WHATEVER THE INPUT: true; the input reads as it did. -/
def crestLaterSpec : ChangeSpec := { name := "crestLater", fn := fun _ => fun
  | [d1, d2, d3] => { results := [.lit (.bool true)], args := [d1, d2, d3] }
  | _ => none }
def crestLaterRow : OpenClaim := { program := "ytdpnndpbbdhnmaa", sum := "e9dcb23a9fdda3d937ade0ec703a4dc0668ae8aee75eac579a5ab15782482b7b", func := "peloton/pelotonlaw05.CrestLater", spec := "crestLater", inPlace := ["math/bits.Add64"], unfollowed := true, recurses := true, apart := false }
def CrestLaterSaid : Prop := crestLaterRow.holds Try.pinned (OpenSpec.ofChange crestLaterSpec)

/-- ITS FALSE NEIGHBOUR: 'it returns false'. Refute it at one input. -/
def crestLaterWrong : ChangeSpec := { name := "crestLater", fn := fun _ => fun
  | [d1, d2, d3] => { results := [.lit (.bool false)], args := [d1, d2, d3] }
  | _ => none }
def CrestLaterWrongFalsely : Prop := crestLaterRow.holds Try.pinned (OpenSpec.ofChange crestLaterWrong)

/-- 'pelotonlaw05.CrestLeads': WHATEVER THE INPUT: true; the input reads as it did. -/
def crestLeadsSpec : ChangeSpec := { name := "crestLeads", fn := fun _ => fun
  | [d1, d2, d3] => { results := [.lit (.bool true)], args := [d1, d2, d3] }
  | _ => none }
def crestLeadsRow : OpenClaim := { program := "ytdpnndpbbdhnmaa", sum := "e9dcb23a9fdda3d937ade0ec703a4dc0668ae8aee75eac579a5ab15782482b7b", func := "peloton/pelotonlaw05.CrestLeads", spec := "crestLeads", inPlace := ["math/bits.Add64"], unfollowed := true, recurses := true, apart := false }
def CrestLeadsSaid : Prop := crestLeadsRow.holds Try.pinned (OpenSpec.ofChange crestLeadsSpec)

/-- ITS FALSE NEIGHBOUR: 'it returns false'. Refute it at one input. -/
def crestLeadsWrong : ChangeSpec := { name := "crestLeads", fn := fun _ => fun
  | [d1, d2, d3] => { results := [.lit (.bool false)], args := [d1, d2, d3] }
  | _ => none }
def CrestLeadsWrongFalsely : Prop := crestLeadsRow.holds Try.pinned (OpenSpec.ofChange crestLeadsWrong)

/-- 'pelotonlaw05.CrestSpeeds': WHATEVER THE INPUT: true; the input reads as it did. -/
def crestSpeedsSpec : ChangeSpec := { name := "crestSpeeds", fn := fun _ => fun
  | [d1, d2] => { results := [.lit (.bool true)], args := [d1, d2] }
  | _ => none }
def crestSpeedsRow : OpenClaim := { program := "ytdpnndpbbdhnmaa", sum := "e9dcb23a9fdda3d937ade0ec703a4dc0668ae8aee75eac579a5ab15782482b7b", func := "peloton/pelotonlaw05.CrestSpeeds", spec := "crestSpeeds", inPlace := ["math/bits.Add64"], unfollowed := true, recurses := true, apart := false }
def CrestSpeedsSaid : Prop := crestSpeedsRow.holds Try.pinned (OpenSpec.ofChange crestSpeedsSpec)

/-- ITS FALSE NEIGHBOUR: 'it returns false'. Refute it at one input. -/
def crestSpeedsWrong : ChangeSpec := { name := "crestSpeeds", fn := fun _ => fun
  | [d1, d2] => { results := [.lit (.bool false)], args := [d1, d2] }
  | _ => none }
def CrestSpeedsWrongFalsely : Prop := crestSpeedsRow.holds Try.pinned (OpenSpec.ofChange crestSpeedsWrong)

/-- 'pelotonlaw24.RaceReigns': WHATEVER THE INPUT: true; the input reads as it did. -/
def raceReignsSpec : ChangeSpec := { name := "raceReigns", fn := fun _ => fun
  | [d1, d2, d3, d4] => { results := [.lit (.bool true)], args := [d1, d2, d3, d4] }
  | _ => none }
def raceReignsRow : OpenClaim := { program := "ytdpnndpbbdhnmaa", sum := "e9dcb23a9fdda3d937ade0ec703a4dc0668ae8aee75eac579a5ab15782482b7b", func := "peloton/pelotonlaw24.RaceReigns", spec := "raceReigns", inPlace := ["math/bits.Add64"], unfollowed := true, recurses := true, apart := false }
def RaceReignsSaid : Prop := raceReignsRow.holds Try.pinned (OpenSpec.ofChange raceReignsSpec)

/-- ITS FALSE NEIGHBOUR: 'it returns false'. Refute it at one input. -/
def raceReignsWrong : ChangeSpec := { name := "raceReigns", fn := fun _ => fun
  | [d1, d2, d3, d4] => { results := [.lit (.bool false)], args := [d1, d2, d3, d4] }
  | _ => none }
def RaceReignsWrongFalsely : Prop := raceReignsRow.holds Try.pinned (OpenSpec.ofChange raceReignsWrong)

/-- 'pelotonlaw24.RaceTotal': WHATEVER THE INPUT: true; the input reads as it did. -/
def raceTotalSpec : ChangeSpec := { name := "raceTotal", fn := fun _ => fun
  | [d1, d2, d3] => { results := [.lit (.bool true)], args := [d1, d2, d3] }
  | _ => none }
def raceTotalRow : OpenClaim := { program := "ytdpnndpbbdhnmaa", sum := "e9dcb23a9fdda3d937ade0ec703a4dc0668ae8aee75eac579a5ab15782482b7b", func := "peloton/pelotonlaw24.RaceTotal", spec := "raceTotal", inPlace := ["math/bits.Add64", "math/bits.Sub64"], unfollowed := true, recurses := true, named := ["math/bits.divideError", "math/bits.overflowError"], apart := false }
def RaceTotalSaid : Prop := raceTotalRow.holds Try.pinned (OpenSpec.ofChange raceTotalSpec)

/-- ITS FALSE NEIGHBOUR: 'it returns false'. Refute it at one input. -/
def raceTotalWrong : ChangeSpec := { name := "raceTotal", fn := fun _ => fun
  | [d1, d2, d3] => { results := [.lit (.bool false)], args := [d1, d2, d3] }
  | _ => none }
def RaceTotalWrongFalsely : Prop := raceTotalRow.holds Try.pinned (OpenSpec.ofChange raceTotalWrong)

/-- 'pelotonlaw24.RaceLaps': WHATEVER THE INPUT: true; the input reads as it did. -/
def raceLapsSpec : ChangeSpec := { name := "raceLaps", fn := fun _ => fun
  | [d1, d2, d3, d4] => { results := [.lit (.bool true)], args := [d1, d2, d3, d4] }
  | _ => none }
def raceLapsRow : OpenClaim := { program := "ytdpnndpbbdhnmaa", sum := "e9dcb23a9fdda3d937ade0ec703a4dc0668ae8aee75eac579a5ab15782482b7b", func := "peloton/pelotonlaw24.RaceLaps", spec := "raceLaps", inPlace := ["math/bits.Add64", "math/bits.Sub64"], unfollowed := true, recurses := true, named := ["math/bits.divideError", "math/bits.overflowError"], apart := false }
def RaceLapsSaid : Prop := raceLapsRow.holds Try.pinned (OpenSpec.ofChange raceLapsSpec)

/-- ITS FALSE NEIGHBOUR: 'it returns false'. Refute it at one input. -/
def raceLapsWrong : ChangeSpec := { name := "raceLaps", fn := fun _ => fun
  | [d1, d2, d3, d4] => { results := [.lit (.bool false)], args := [d1, d2, d3, d4] }
  | _ => none }
def RaceLapsWrongFalsely : Prop := raceLapsRow.holds Try.pinned (OpenSpec.ofChange raceLapsWrong)

/-- 'pelotonlaw24.RaceCover': WHATEVER THE INPUT: true; the input reads as it did. -/
def raceCoverSpec : ChangeSpec := { name := "raceCover", fn := fun _ => fun
  | [d1, d2, d3, d4] => { results := [.lit (.bool true)], args := [d1, d2, d3, d4] }
  | _ => none }
def raceCoverRow : OpenClaim := { program := "ytdpnndpbbdhnmaa", sum := "e9dcb23a9fdda3d937ade0ec703a4dc0668ae8aee75eac579a5ab15782482b7b", func := "peloton/pelotonlaw24.RaceCover", spec := "raceCover", inPlace := ["math/bits.Add64", "math/bits.Sub64"], unfollowed := true, recurses := true, named := ["math/bits.divideError", "math/bits.overflowError"], apart := false }
def RaceCoverSaid : Prop := raceCoverRow.holds Try.pinned (OpenSpec.ofChange raceCoverSpec)

/-- ITS FALSE NEIGHBOUR: 'it returns false'. Refute it at one input. -/
def raceCoverWrong : ChangeSpec := { name := "raceCover", fn := fun _ => fun
  | [d1, d2, d3, d4] => { results := [.lit (.bool false)], args := [d1, d2, d3, d4] }
  | _ => none }
def RaceCoverWrongFalsely : Prop := raceCoverRow.holds Try.pinned (OpenSpec.ofChange raceCoverWrong)

/- THE SECOND FORM. 'bulk': how many values and letters a reading holds, each counted each time it is reached (what is shared counts as often as it is met; a slice's spare places count too). A statement '..UptoSaid' is the law's where the arguments, and the package variables that the reading takes, are together of bulk at most 1048576: NARROWER than '..Said'. Prove '..Said' where nothing that the law and all that it calls make is longer than what came in: it says more and counts as full. Else prove '..UptoSaid'. A law counts once. -/
mutual
def uptoBulk {H : Type} : DataW H → Nat
  | .lit (.string bytes) => bytes.length + 1
  | .lit _ => 1
  | .nil => 1
  | .ptr d => uptoBulk d + 1
  | .slice elems spare => uptoBulkAll elems + uptoBulkAll spare + 1
  | .agg parts => uptoBulkAll parts + 1
  | .iface _ d => uptoBulk d + 1
  | .map entries => uptoBulkEntries entries + 1
  | .held _ => 1
def uptoBulkAll {H : Type} : List (DataW H) → Nat
  | [] => 0
  | d :: r => uptoBulk d + uptoBulkAll r
def uptoBulkEntries {H : Type} : List (Lit × DataW H) → Nat
  | [] => 0
  | x :: r => uptoBulkEntry x + uptoBulkEntries r
def uptoBulkEntry {H : Type} : Lit × DataW H → Nat
  | (.string bytes, d) => bytes.length + uptoBulk d + 1
  | (_, d) => uptoBulk d + 1
 end
def uptoSmall : (H : Type) → List (DataW H) → Bool := fun _ ds => decide (uptoBulkAll ds ≤ 1048576)
def OpenSpec.upto (s : _root_.Go.ChangeSpec) : _root_.Go.OpenSpec := { _root_.Go.OpenSpec.ofChange s with cond := some uptoSmall }

/-- 'pelotonlaw05.CrestMakes', WHERE WHAT IT READS IS OF BULK AT MOST 1048576: true; the input reads as it did. -/
def crestMakesUptoRow : OpenClaim := { program := "ytdpnndpbbdhnmaa", sum := "e9dcb23a9fdda3d937ade0ec703a4dc0668ae8aee75eac579a5ab15782482b7b", func := "peloton/pelotonlaw05.CrestMakes", spec := "crestMakes", inPlace := ["math/bits.Add64"], unfollowed := true, recurses := true, apart := false, narrowed := true }
def CrestMakesUptoSaid : Prop := crestMakesUptoRow.holds Try.pinned (OpenSpec.upto crestMakesSpec)

/-- 'pelotonlaw05.CrestLater', WHERE WHAT IT READS IS OF BULK AT MOST 1048576: true; the input reads as it did. -/
def crestLaterUptoRow : OpenClaim := { program := "ytdpnndpbbdhnmaa", sum := "e9dcb23a9fdda3d937ade0ec703a4dc0668ae8aee75eac579a5ab15782482b7b", func := "peloton/pelotonlaw05.CrestLater", spec := "crestLater", inPlace := ["math/bits.Add64"], unfollowed := true, recurses := true, apart := false, narrowed := true }
def CrestLaterUptoSaid : Prop := crestLaterUptoRow.holds Try.pinned (OpenSpec.upto crestLaterSpec)

/-- 'pelotonlaw05.CrestLeads', WHERE WHAT IT READS IS OF BULK AT MOST 1048576: true; the input reads as it did. -/
def crestLeadsUptoRow : OpenClaim := { program := "ytdpnndpbbdhnmaa", sum := "e9dcb23a9fdda3d937ade0ec703a4dc0668ae8aee75eac579a5ab15782482b7b", func := "peloton/pelotonlaw05.CrestLeads", spec := "crestLeads", inPlace := ["math/bits.Add64"], unfollowed := true, recurses := true, apart := false, narrowed := true }
def CrestLeadsUptoSaid : Prop := crestLeadsUptoRow.holds Try.pinned (OpenSpec.upto crestLeadsSpec)

/-- 'pelotonlaw05.CrestSpeeds', WHERE WHAT IT READS IS OF BULK AT MOST 1048576: true; the input reads as it did. -/
def crestSpeedsUptoRow : OpenClaim := { program := "ytdpnndpbbdhnmaa", sum := "e9dcb23a9fdda3d937ade0ec703a4dc0668ae8aee75eac579a5ab15782482b7b", func := "peloton/pelotonlaw05.CrestSpeeds", spec := "crestSpeeds", inPlace := ["math/bits.Add64"], unfollowed := true, recurses := true, apart := false, narrowed := true }
def CrestSpeedsUptoSaid : Prop := crestSpeedsUptoRow.holds Try.pinned (OpenSpec.upto crestSpeedsSpec)

/-- 'pelotonlaw24.RaceReigns', WHERE WHAT IT READS IS OF BULK AT MOST 1048576: true; the input reads as it did. -/
def raceReignsUptoRow : OpenClaim := { program := "ytdpnndpbbdhnmaa", sum := "e9dcb23a9fdda3d937ade0ec703a4dc0668ae8aee75eac579a5ab15782482b7b", func := "peloton/pelotonlaw24.RaceReigns", spec := "raceReigns", inPlace := ["math/bits.Add64"], unfollowed := true, recurses := true, apart := false, narrowed := true }
def RaceReignsUptoSaid : Prop := raceReignsUptoRow.holds Try.pinned (OpenSpec.upto raceReignsSpec)

/-- 'pelotonlaw24.RaceTotal', WHERE WHAT IT READS IS OF BULK AT MOST 1048576: true; the input reads as it did. -/
def raceTotalUptoRow : OpenClaim := { program := "ytdpnndpbbdhnmaa", sum := "e9dcb23a9fdda3d937ade0ec703a4dc0668ae8aee75eac579a5ab15782482b7b", func := "peloton/pelotonlaw24.RaceTotal", spec := "raceTotal", inPlace := ["math/bits.Add64", "math/bits.Sub64"], unfollowed := true, recurses := true, named := ["math/bits.divideError", "math/bits.overflowError"], apart := false, narrowed := true }
def RaceTotalUptoSaid : Prop := raceTotalUptoRow.holds Try.pinned (OpenSpec.upto raceTotalSpec)

/-- 'pelotonlaw24.RaceLaps', WHERE WHAT IT READS IS OF BULK AT MOST 1048576: true; the input reads as it did. -/
def raceLapsUptoRow : OpenClaim := { program := "ytdpnndpbbdhnmaa", sum := "e9dcb23a9fdda3d937ade0ec703a4dc0668ae8aee75eac579a5ab15782482b7b", func := "peloton/pelotonlaw24.RaceLaps", spec := "raceLaps", inPlace := ["math/bits.Add64", "math/bits.Sub64"], unfollowed := true, recurses := true, named := ["math/bits.divideError", "math/bits.overflowError"], apart := false, narrowed := true }
def RaceLapsUptoSaid : Prop := raceLapsUptoRow.holds Try.pinned (OpenSpec.upto raceLapsSpec)

/-- 'pelotonlaw24.RaceCover', WHERE WHAT IT READS IS OF BULK AT MOST 1048576: true; the input reads as it did. -/
def raceCoverUptoRow : OpenClaim := { program := "ytdpnndpbbdhnmaa", sum := "e9dcb23a9fdda3d937ade0ec703a4dc0668ae8aee75eac579a5ab15782482b7b", func := "peloton/pelotonlaw24.RaceCover", spec := "raceCover", inPlace := ["math/bits.Add64", "math/bits.Sub64"], unfollowed := true, recurses := true, named := ["math/bits.divideError", "math/bits.overflowError"], apart := false, narrowed := true }
def RaceCoverUptoSaid : Prop := raceCoverUptoRow.holds Try.pinned (OpenSpec.upto raceCoverSpec)

end Rows
end Go.Proofs.Ytdpnndpbbdhnmaa
