/- given and at of the laws of layers 3 to 11. -/
import Derived.Test.YtkcpnclgcmnlcaaFLit
set_option linter.unusedSimpArgs false
set_option linter.unusedVariables false
namespace Go.Proofs.Ytkcpnclgcmnlcaa
open Go.RowKit Go.Pel
set_option maxRecDepth 10000 in
set_option maxHeartbeats 2000000 in
theorem given03_any (w : World) : Calls Try.prog 64 #[] w fun e w' => ∃ A c, e = .returned (.agg #[.slice A givenF.length c]) ∧ ∃ x, w' = ext w x ∧ Own (ext w x) w.heap.size 26 3 A givenF.length c (vp givenF) := by
  go_enter Try.func64, Try.ntmps64
  go_wp2
  refine bodyPost_ret (v := .agg #[.slice (some ⟨w.heap.size + 1, 0, none⟩) 3 3]) (by simp [results, Try.results64, go_sem]) rfl ?_
  exact ⟨some ⟨w.heap.size + 1, 0, none⟩, 3, rfl, own_exists (by (try simp only [ext_ext]); repeat (first | exact Bel.refl _ | assumption | refine bel_and ?_ _ | refine bel_drews ?_ _ | refine Bel.ext ?_ _ | refine Bel.alloc ?_ _ | refine Bel.drewN ?_ _)) ((own_row (size := 3) (n := 3) (Bel.refl _) (by simp) (by decide) rfl).base_le (by simp)) (Bel.refl _)⟩
set_option maxRecDepth 10000 in
set_option maxHeartbeats 2000000 in
theorem at03l_any (n : Int) (w : World) : Calls Try.prog 63 #[.int .i64 n] w fun e w' => e = .returned (.agg #[.int .i64 n, .int .i64 1]) ∧ ∃ x, w' = ext w x := by
  go_enter Try.func63, Try.ntmps63
  go_wp2
  exact bodyPost_ret (v := .agg #[.int .i64 n, .int .i64 1]) (by simp [results, Try.results63, go_sem]) rfl ⟨by rfl, ext_of (by (try simp only [ext_ext]); repeat (first | exact Bel.refl _ | assumption | refine bel_and ?_ _ | refine bel_drews ?_ _ | refine Bel.ext ?_ _ | refine Bel.alloc ?_ _ | refine Bel.drewN ?_ _))⟩
end Go.Proofs.Ytkcpnclgcmnlcaa
