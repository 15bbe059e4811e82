/- Walks of the references; the orders agree; examples. -/
import Derived.Shelf.Spec.BitsCarry
import Derived.Test.YtoakhncbmpdacaaGg
set_option linter.unusedSimpArgs false
set_option linter.unusedVariables false
namespace Go.Proofs.Ytoakhncbmpdacaa
open Go Go.Tx Go.Proofs.Try
set_option maxRecDepth 100000
set_option maxHeartbeats 0
end Go.Proofs.Ytoakhncbmpdacaa

namespace Go.Tx
open Go
end Go.Tx

namespace Go.Proofs.Ytoakhncbmpdacaa
open Go Go.Tx Go.Proofs.Try
end Go.Proofs.Ytoakhncbmpdacaa
