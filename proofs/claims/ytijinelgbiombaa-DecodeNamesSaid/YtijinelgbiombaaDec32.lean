/- The law's 'none': bytes that are no asks. -/
import Derived.Test.YtijinelgbiombaaDec21
set_option linter.unusedSimpArgs false
set_option linter.unusedVariables false
namespace Go.Proofs.Ytijinelgbiombaa
open Go.RowKit Go.Pel
set_option maxRecDepth 10000 in
theorem none_yes (A : Option Addr) (c : Nat) (l : List UInt8) (w : World) (hs : Sl w 1 A l.length c (vb l)) (hl : l.length ≤ 1000000) (h : rd l = ([], 12)) :
    Calls Try.prog 25 #[.slice A l.length c] w fun e w' => e = .returned (.bool true) ∧ ∃ x, w' = ext w x := by
  have hq := read_any A c l w hs hl
  rw [h] at hq
  have hq := Lib.hid hq
  clear h
  go_enter Try.func25, Try.ntmps25
  go_wp2_with (go_at_call 19; refine (hq.out).mono ?_; rintro e _ ⟨A5, c5, rfl, x5, rfl, own5⟩)
  (go_ret; exact ⟨ret_bool (by rfl), ext_of (by (try simp only [ext_ext]); repeat (first | exact Bel.refl _ | assumption | refine bel_and ?_ _ | refine bel_drews ?_ _ | refine Bel.ext ?_ _ | refine Bel.alloc ?_ _ | refine Bel.drewN ?_ _))⟩)
end Go.Proofs.Ytijinelgbiombaa
