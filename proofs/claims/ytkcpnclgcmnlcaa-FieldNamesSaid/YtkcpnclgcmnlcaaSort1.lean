/- field.sorted$1: the comparator of the sort. -/
import Derived.Test.YtkcpnclgcmnlcaaCrs3
import Derived.Test.YtkcpnclgcmnlcaaSpec4
import Derived.Test.YtkcpnclgcmnlcaaLaw
set_option linter.unusedSimpArgs false
set_option linter.unusedVariables false
namespace Go.Proofs.Ytkcpnclgcmnlcaa
open Go.RowKit Go.Pel
set_option maxRecDepth 10000 in
set_option maxHeartbeats 2000000 in
theorem sorted1_any (p q : Pt) (n d : Int) (rb : Nat) (w : World) (hn : -9223372036854775808 ≤ n ∧ n ≤ 9223372036854775807) (hd : -9223372036854775808 ≤ d ∧ d ≤ 9223372036854775807) (r0 : Held w rb 0 (.int .i64 n)) (r1 : Held w rb 1 (.int .i64 d)) (ht : p.id ≠ q.id → twoChk p q n d = 0) :
    Calls Try.prog 114 #[.agg #[.int .i64 p.id, .int .i64 p.a, .int .i64 p.b], .agg #[.int .i64 q.id, .int .i64 q.a, .int .i64 q.b], .pointer (some ⟨rb, 0, none⟩)] w fun e w' => e = .returned (.int .i64 (cfP n d p q)) ∧ ∃ x, w' = ext w x := by
  have hb := r0.lt
  have c0 := r0.eq
  have c1 := r1.eq
  have q1 := Lib.hid (fun W => ahead_any p q n d W hn hd)
  clear hn hd r0 r1
  by_cases h : p.id = q.id
  · have HV := Lib.hid (show (0 : Int) = cfP n d p q from (if_pos h).symm)
    clear ht q1
    go_enter Try.func114, Try.ntmps114
    go_wp2
    (go_ret; exact ⟨ret_int (by exact HV.out), ext_of (by (try simp only [ext_ext]); repeat (first | exact Bel.refl _ | assumption | refine bel_and ?_ _ | refine bel_drews ?_ _ | refine Bel.ext ?_ _ | refine Bel.alloc ?_ _ | refine Bel.drewN ?_ _))⟩)
  · have HA : aheadV p q n d = (leads p q n d, 0) := if_pos (ht h)
    rw [HA] at q1
    clear ht HA
    rcases hL : leads p q n d with _ | _
    · have HV := Lib.hid (show (1 : Int) = cfP n d p q by unfold cfP; rw [if_neg h, hL]; rfl)
      rw [hL] at q1
      clear hL
      go_enter Try.func114, Try.ntmps114
      go_wp2_with ((go_at_call 58; (with_reducible refine (q1.out _).mono ?_); rintro e _ ⟨rfl, nx, rfl⟩))
      (go_ret; exact ⟨ret_int (by exact HV.out), ext_of (by (try simp only [ext_ext]); repeat (first | exact Bel.refl _ | assumption | refine bel_and ?_ _ | refine bel_drews ?_ _ | refine Bel.ext ?_ _ | refine Bel.alloc ?_ _ | refine Bel.drewN ?_ _))⟩)
    · have HV := Lib.hid (show (-1 : Int) = cfP n d p q by unfold cfP; rw [if_neg h, hL]; rfl)
      rw [hL] at q1
      clear hL
      go_enter Try.func114, Try.ntmps114
      go_wp2_with ((go_at_call 58; (with_reducible refine (q1.out _).mono ?_); rintro e _ ⟨rfl, nx, rfl⟩))
      (go_ret; exact ⟨ret_int (by exact HV.out), ext_of (by (try simp only [ext_ext]); repeat (first | exact Bel.refl _ | assumption | refine bel_and ?_ _ | refine bel_drews ?_ _ | refine Bel.ext ?_ _ | refine Bel.alloc ?_ _ | refine Bel.drewN ?_ _))⟩)
end Go.Proofs.Ytkcpnclgcmnlcaa
