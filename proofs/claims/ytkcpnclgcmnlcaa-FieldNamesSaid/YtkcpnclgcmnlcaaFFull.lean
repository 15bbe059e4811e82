/- pelotonlaw03.full. -/
import Derived.Test.YtkcpnclgcmnlcaaFGiv
import Derived.Test.YtkcpnclgcmnlcaaSpec7
set_option linter.unusedSimpArgs false
set_option linter.unusedVariables false
namespace Go.Proofs.Ytkcpnclgcmnlcaa
open Go.RowKit Go.Pel
set_option maxRecDepth 10000 in
set_option maxHeartbeats 2000000 in
theorem full_any (n : Nat) (w : World) (hn : n ≤ 1000) : Calls Try.prog 62 #[.int .i64 n] w fun e w' => ∃ A c, e = .returned (.agg #[.slice A (fullL n).length c]) ∧ ∃ x, w' = ext w x ∧ Own (ext w x) w.heap.size 26 3 A (fullL n).length c (vp (fullL n)) := by
  rw [full_len]
  go_enter Try.func62, Try.ntmps62
  go_wp2
  go_loopw [4] (fun i wr => ∃ (k : Nat) (A' : Option Addr) (c' : Nat), k ≤ n ∧ i = .int .i64 k ∧ ∃ y, wr = ext ((w.alloc (.cells #[.slice none 0 0] 24)).alloc (.cells #[.slice A' k c'] 24)) y ∧ Own (ext ((w.alloc (.cells #[.slice none 0 0] 24)).alloc (.cells #[.slice A' k c'] 24)) y) (w.heap.size + 2) 26 3 A' k c' (vp (fullL k))) (fun i _ => n - (intOf i).toNat)
  case atStart => exact ⟨0, none, 0, Nat.zero_le _, rfl, nil_ret (Bel.refl _)⟩
  case round =>
    obtain ⟨k, A', c', hk, rfl, y, rfl, hown⟩ := hrel
    by_cases hlt : k < n
    · have hi1 : (k : Int) < (n : Int) := by omega
      have hi2 : (n : Int) ≤ 1000 := by omega
      have HF := Lib.hid (full_succ k)
      obtain ⟨xs, hxs⟩ : ∃ xs, vp (fullL k) = xs := ⟨_, rfl⟩
      rw [hxs] at hown
      have HX := Lib.hid hxs; clear hxs
      go_wp2_with (at_builtin; (try refine wpList_unguard rfl (by first | rfl | simp [yielded]) ?_); refine append1_ext slt_pts (wB := (w.alloc (.cells #[.slice none 0 0] 24)).alloc (.cells #[.slice A' k c'] 24)) (by (try simp only [ext_ext]); repeat (first | exact Bel.refl _ | assumption | refine bel_and ?_ _ | refine bel_drews ?_ _ | refine Bel.ext ?_ _ | refine Bel.alloc ?_ _ | refine Bel.drewN ?_ _)) (hown.base_le (by simp)) (by (try simp only [ext_ext]); repeat (first | exact Bel.refl _ | assumption | refine bel_and ?_ _ | refine bel_drews ?_ _ | refine Bel.ext ?_ _ | refine Bel.alloc ?_ _ | refine Bel.drewN ?_ _)) (by simp [Value.oneCell']) rfl (by omega) rfl _ _ rfl rfl rfl (by simp [go_sem]) ?_; rintro A2 c2 y2 own2)
      go_roundw
      case rel =>
        refine ⟨k + 1, A2, c2, by omega, by go_num, ?_⟩
        rw [HF.out, vp_snoc, HX.out]
        exact ⟨y2, rfl, (own_swap (by simp) own2 (by simp)).base_le (by simp)⟩
      case measure => (first | (simp [intOf]; done) | (simp [intOf]; omega))
    · obtain rfl : k = n := by omega
      go_wp2
      refine bodyPost_ret (v := .agg #[.slice A' k c']) (by simp [results, Try.results62, go_sem]) rfl ?_
      exact ⟨_, _, rfl, own_ret (by (try simp only [ext_ext]); repeat (first | exact Bel.refl _ | assumption | refine bel_and ?_ _ | refine bel_drews ?_ _ | refine Bel.ext ?_ _ | refine Bel.alloc ?_ _ | refine Bel.drewN ?_ _)) (own_swap (by simp [go_sem]) hown (by simp [go_sem])) (Bel.refl _) (by simp [go_sem])⟩
end Go.Proofs.Ytkcpnclgcmnlcaa
