/- The law's 'wild': bytes have some wild asks; the chapter's examples. -/
import Derived.Test.YtijinelgbiombaaDec31
import Derived.Test.YtijinelgbiombaaDec32
import Derived.Test.YtijinelgbiombaaDec33
import Derived.Test.YtijinelgbiombaaDec19
import Derived.Test.YtijinelgbiombaaSpec36f
set_option linter.unusedSimpArgs false
set_option linter.unusedVariables false
namespace Go.Proofs.Ytijinelgbiombaa
open Go.RowKit Go.Pel
set_option maxRecDepth 10000 in
set_option maxHeartbeats 1000000 in
theorem wildL_yes (A A2 : Option Addr) (c c2 : Nat) (l : List UInt8) (m : List Pel.Ask) (w : World) (hs : Sl w 1 A l.length c (vb l)) (hn : A = none → c = 0) (hl : l.length ≤ 1000000) (ht : Sl w 7 A2 m.length c2 (va m)) (hm : m.length ≤ 1000000) (h : wl l = (m, 0)) :
    Calls Try.prog 26 #[.slice A l.length c, .slice A2 m.length c2] w fun e w' => e = .returned (.bool true) ∧ ∃ x, w' = ext w x := by
  have hq := wild_any A c l w hs hn hl
  rw [h] at hq
  have hq := Lib.hid hq
  have hq2 := Lib.hid (fun B B2 d d2 => same_any B B2 d d2 m m)
  clear h
  go_enter Try.func26, Try.ntmps26
  go_wp2_with fail
  refine (hq.out).mono ?_
  rintro e _ ⟨A5, c5, rfl, x5, rfl, own5⟩
  go_wp2_with fail
  refine (hq2.out _ _ _ _ _ (own5.sl.bel (by (try simp only [ext_ext]); repeat (first | exact Bel.refl _ | assumption | refine bel_and ?_ _ | refine bel_drews ?_ _ | refine Bel.ext ?_ _ | refine Bel.alloc ?_ _ | refine Bel.drewN ?_ _))) (ht.bel (by (try simp only [ext_ext]); repeat (first | exact Bel.refl _ | assumption | refine bel_and ?_ _ | refine bel_drews ?_ _ | refine Bel.ext ?_ _ | refine Bel.alloc ?_ _ | refine Bel.drewN ?_ _))) hm hm).mono ?_
  rintro e _ ⟨rfl, x6, rfl⟩
  go_wp2
  (go_ret; exact ⟨ret_bool (by simp), ext_of (by (try simp only [ext_ext]); repeat (first | exact Bel.refl _ | assumption | refine bel_and ?_ _ | refine bel_drews ?_ _ | refine Bel.ext ?_ _ | refine Bel.alloc ?_ _ | refine Bel.drewN ?_ _))⟩)
end Go.Proofs.Ytijinelgbiombaa
