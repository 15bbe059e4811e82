/- A cell of a row of numbers of the call's own. -/
import Derived.Test.YtkcpnclgcmnlcaaFLit
set_option linter.unusedSimpArgs false
set_option linter.unusedVariables false
namespace Go.Proofs.Ytkcpnclgcmnlcaa
open Go.RowKit Go.Pel
theorem own_int {W : World} {B : Nat} {e : TypeId} {g n c : Nat} {L : List Int} (h : Own W B e 1 (some ⟨g, 0, none⟩) n c (vi L)) {k : Nat} {x : Int} (hx : L[k]? = some x) : W.cell? ⟨g, k, none⟩ = some (.int .i64 x) := own_cell h (by simp [vi, hx])
end Go.Proofs.Ytkcpnclgcmnlcaa
