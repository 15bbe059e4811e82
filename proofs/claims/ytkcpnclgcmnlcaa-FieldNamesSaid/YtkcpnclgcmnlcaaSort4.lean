/- field.Leader. -/
import Derived.Test.YtkcpnclgcmnlcaaSort3
set_option linter.unusedSimpArgs false
set_option linter.unusedVariables false
namespace Go.Pel
def fieldLeader (l : List Pt) (n d : Int) : Int × Int := if (fieldSorted l n d).2 ≠ 0 then (0, (fieldSorted l n d).2) else match (fieldSorted l n d).1 with | [] => (0, 42) | p :: _ => (p.id, 0)
end Go.Pel
namespace Go.Proofs.Ytkcpnclgcmnlcaa
open Go.RowKit Go.Pel
set_option maxRecDepth 10000 in
set_option maxHeartbeats 2000000 in
theorem leader_any (A : Option Addr) (c : Nat) (l : List Pt) (n d : Int) (w : World) (hn : -9223372036854775808 ≤ n ∧ n ≤ 9223372036854775807) (hd : -9223372036854775808 ≤ d ∧ d ≤ 9223372036854775807) (hs : Sl w 3 A l.length c (vp l)) (hn0 : A = none → c = 0) :
    Calls Try.prog 50 #[.agg #[.slice A l.length c], .agg #[.int .i64 n, .int .i64 d]] w fun e w' => e = .returned (.tuple #[.int .i64 (fieldLeader l n d).1, .int .i64 (fieldLeader l n d).2]) ∧ ∃ x, w' = ext w x := by
  have q := Lib.hid (fun W hb => sorted_any A c l n d W hn hd (hs.bel (w' := W) hb) hn0)
  unfold fieldLeader
  generalize fieldSorted l n d = F at q ⊢
  obtain ⟨m, v⟩ := F
  simp only at q ⊢
  by_cases h : v = 0
  · subst h
    rw [if_neg (by decide)]
    cases m with
    | nil =>
      clear hn hd
      go_enter Try.func50, Try.ntmps50
      go_wp2_with (go_at_call 90; refine (q.out _ (by (try simp only [ext_ext]); repeat (first | exact Bel.refl _ | assumption | refine bel_and ?_ _ | refine bel_drews ?_ _ | refine Bel.ext ?_ _ | refine Bel.alloc ?_ _ | refine Bel.drewN ?_ _))).mono ?_; rintro e _ ⟨A2, c2, rfl, x2, rfl, own2⟩)
      go_ret2
      exact ⟨rfl, ext_of (by (try simp only [ext_ext]); repeat (first | exact Bel.refl _ | assumption | refine bel_and ?_ _ | refine bel_drews ?_ _ | refine Bel.ext ?_ _ | refine Bel.alloc ?_ _ | refine Bel.drewN ?_ _))⟩
    | cons p r =>
      clear hn hd
      go_enter Try.func50, Try.ntmps50
      go_wp2_with (go_at_call 90; refine (q.out _ (by (try simp only [ext_ext]); repeat (first | exact Bel.refl _ | assumption | refine bel_and ?_ _ | refine bel_drews ?_ _ | refine Bel.ext ?_ _ | refine Bel.alloc ?_ _ | refine Bel.drewN ?_ _))).mono ?_; rintro e _ ⟨A2, c2, rfl, x2, rfl, own2⟩; have s2 := own2.sl; have hlen : (0 : Int) < ((p :: r).length : Int) := (Int.ofNat_lt.2 (Nat.succ_pos _)); have hz : (((p :: r).length : Int) == 0) = false := (by rw [beq_eq_false_iff_ne]; omega); obtain ⟨b, o, rfl, hb2⟩ := s2.at_ (by simp); obtain ⟨r0, _, _⟩ := pt_at s2 (i := 0) (p := p) rfl; rw [Nat.zero_mul, Nat.add_zero] at r0; clear own2 s2)
      go_ret2
      exact ⟨rfl, ext_of (by (try simp only [ext_ext]); repeat (first | exact Bel.refl _ | assumption | refine bel_and ?_ _ | refine bel_drews ?_ _ | refine Bel.ext ?_ _ | refine Bel.alloc ?_ _ | refine Bel.drewN ?_ _))⟩
  · rw [if_pos h]
    have h' : (v != 0) = true := by simpa using h
    clear h hn hd
    go_enter Try.func50, Try.ntmps50
    go_wp2_with (go_at_call 90; refine (q.out _ (by (try simp only [ext_ext]); repeat (first | exact Bel.refl _ | assumption | refine bel_and ?_ _ | refine bel_drews ?_ _ | refine Bel.ext ?_ _ | refine Bel.alloc ?_ _ | refine Bel.drewN ?_ _))).mono ?_; rintro e _ ⟨A2, c2, rfl, x2, rfl, own2⟩)
    go_ret2
    exact ⟨rfl, ext_of (by (try simp only [ext_ext]); repeat (first | exact Bel.refl _ | assumption | refine bel_and ?_ _ | refine bel_drews ?_ _ | refine Bel.ext ?_ _ | refine Bel.alloc ?_ _ | refine Bel.drewN ?_ _))⟩
end Go.Proofs.Ytkcpnclgcmnlcaa
