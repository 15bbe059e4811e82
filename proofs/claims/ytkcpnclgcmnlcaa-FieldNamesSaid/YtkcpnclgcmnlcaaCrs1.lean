/- course.sum. -/
import Derived.Test.YtkcpnclgcmnlcaaSpec2
import Derived.Test.YtkcpnclgcmnlcaaShelf1
import Derived.Test.YtkcpnclgcmnlcaaNum2
import Derived.Shelf.Spec.BitsCarry
set_option linter.unusedSimpArgs false
set_option linter.unusedVariables false
namespace Go.Proofs.Ytkcpnclgcmnlcaa
open Go.RowKit Go.Pel
theorem add64_run (x y c : Nat) (hx : x < 18446744073709551616) (hy : y < 18446744073709551616) (hc : c ≤ 1) (w : World) :
    (callFunc 129 #[.int .u64 x, .int .u64 y, .int .u64 c]).run Try.prog w =
      .ok (.value (.tuple #[.int .u64 (((x + y + c) % 18446744073709551616 : Nat) : Int), .int .u64 (((x + y + c) / 18446744073709551616 : Nat) : Int)])) w := by
  rw [run_callFunc_extern Try.func129 (by kernel_rfl) (by kernel_rfl) (by kernel_rfl) (e := add64Entry) (by kernel_rfl), run_add64 x y c (by omega) (by omega) (by omega) (by omega)]
  simp only [Result.andThen]
  congr 5 <;> omega
theorem hi_cases {a b Z : Int} {H : Nat} (hH : un a * un b / 18446744073709551616 = H) (hZ : hiOf a b = Z) : (decide (a < 0) = true ∧ decide (b < 0) = true ∧ wrap64 (wrap64 (wrap64 (H : Int) - b) - a) = Z) ∨ (decide (a < 0) = true ∧ decide (b < 0) = false ∧ wrap64 (wrap64 (H : Int) - b) = Z) ∨ (decide (a < 0) = false ∧ decide (b < 0) = true ∧ wrap64 (wrap64 (H : Int) - a) = Z) ∨ (decide (a < 0) = false ∧ decide (b < 0) = false ∧ wrap64 (H : Int) = Z) := by
  have w2 : ∀ x, wrap64 (wrap64 x) = wrap64 x := fun x => by unfold wrap64; omega
  unfold hiOf at hZ
  rw [hH] at hZ
  by_cases h1 : a < 0 <;> by_cases h2 : b < 0 <;> simp only [h1, h2, if_true, if_false, Int.sub_zero, w2] at hZ <;> simp [h1, h2, hZ]
theorem mul_c (a b : Int) (H L : Nat) (hH : un a * un b / 18446744073709551616 = H) (hL : un a * un b % 18446744073709551616 = L) (w : World) :
    Calls Try.prog 128 #[.int .u64 (IntKind.u64.wrap a), .int .u64 (IntKind.u64.wrap b)] w fun e w' => e = .returned (.tuple #[.int .u64 (H : Int), .int .u64 (L : Int)]) ∧ ∃ x, w' = ext w x := by
  have h := Try.bits_Mul64 (un a) (un b) (un_lt a) (un_lt b) w
  rw [hH, hL] at h
  have e1 : ((un a : Nat) : Int) = IntKind.u64.wrap a := by rw [un_cast, IntKind.wrap_u64]
  have e2 : ((un b : Nat) : Int) = IntKind.u64.wrap b := by rw [un_cast, IntKind.wrap_u64]
  rw [e1, e2] at h
  exact h.mono fun _ _ ⟨he, hw⟩ => ⟨he, ext_of (hw ▸ Bel.refl _)⟩
theorem add0_run (L : Nat) (hL : L < 18446744073709551616) (w : World) : (callFunc 129 #[.int .u64 0, .int .u64 (L : Int), .int .u64 0]).run Try.prog w = .ok (.value (.tuple #[.int .u64 (L : Int), .int .u64 0])) w := by
  have h := add64_run 0 L 0 (by omega) hL (by omega) w
  have e1 : (0 + L + 0) % 18446744073709551616 = L := by omega
  have e2 : (0 + L + 0) / 18446744073709551616 = 0 := by omega
  rw [e1, e2] at h
  exact h
set_option maxRecDepth 10000 in
set_option maxHeartbeats 8000000 in
theorem sum_any (a b c d : Int) (w : World) (ha : -9223372036854775808 ≤ a ∧ a < 9223372036854775808) (hb : -9223372036854775808 ≤ b ∧ b < 9223372036854775808) (hc : -9223372036854775808 ≤ c ∧ c < 9223372036854775808) (hd : -9223372036854775808 ≤ d ∧ d < 9223372036854775808)
    (hab : -38685626227668133590597632 ≤ a * b ∧ a * b ≤ 38685626227668133590597632) (hcd : -38685626227668133590597632 ≤ c * d ∧ c * d ≤ 38685626227668133590597632) :
    Calls Try.prog 116 #[.agg #[.int .i64 a, .int .i64 b, .int .i64 c, .int .i64 d]] w fun e w' => e = .returned (.agg #[.int .i64 ((a * b + c * d) / 18446744073709551616), .int .u64 ((a * b + c * d) % 18446744073709551616)]) ∧ ∃ x, w' = ext w x := by
  have i0 : ∀ w, (Instr.index 152 (.agg #[.int .i64 a, .int .i64 b, .int .i64 c, .int .i64 d]) (.int .i64 0)).run Try.prog w = .ok (.agg #[.int .i64 a, .int .i64 b]) w := fun _ => by kernel_rfl
  have i1 : ∀ w, (Instr.index 152 (.agg #[.int .i64 a, .int .i64 b, .int .i64 c, .int .i64 d]) (.int .i64 1)).run Try.prog w = .ok (.agg #[.int .i64 c, .int .i64 d]) w := fun _ => by kernel_rfl
  obtain ⟨H1, hH1⟩ : ∃ H, un a * un b / 18446744073709551616 = H := ⟨_, rfl⟩
  obtain ⟨L1, hL1⟩ : ∃ L, un a * un b % 18446744073709551616 = L := ⟨_, rfl⟩
  obtain ⟨H2, hH2⟩ : ∃ H, un c * un d / 18446744073709551616 = H := ⟨_, rfl⟩
  obtain ⟨L2, hL2⟩ : ∃ L, un c * un d % 18446744073709551616 = L := ⟨_, rfl⟩
  have q1 := Lib.hid (mul_c a b H1 L1 hH1 hL1)
  have q2 := Lib.hid (mul_c c d H2 L2 hH2 hL2)
  have a1 := add0_run L1 (by omega)
  have L1b : L1 < 18446744073709551616 := by omega
  have L2b : L2 < 18446744073709551616 := by omega
  obtain ⟨S, hS⟩ : ∃ S, (L1 + L2 + 0) % 18446744073709551616 = S := ⟨_, rfl⟩
  obtain ⟨C, hC⟩ : ∃ C, (L1 + L2 + 0) / 18446744073709551616 = C := ⟨_, rfl⟩
  have a2 : ∀ w, (callFunc 129 #[.int .u64 (L1 : Int), .int .u64 (L2 : Int), .int .u64 0]).run Try.prog w = .ok (.value (.tuple #[.int .u64 (S : Int), .int .u64 (C : Int)])) w := fun w => by
    have h := add64_run L1 L2 0 L1b L2b (by omega) w
    rw [hS, hC] at h; exact h
  obtain ⟨Z1, hZ1⟩ : ∃ Z, hiOf a b = Z := ⟨_, rfl⟩
  obtain ⟨Z2, hZ2⟩ : ∃ Z, hiOf c d = Z := ⟨_, rfl⟩
  have z1 : Z1 = a * b / 18446744073709551616 := by rw [← hZ1]; exact hiOf_eq a b ha hb (by omega)
  have z2 : Z2 = c * d / 18446744073709551616 := by rw [← hZ2]; exact hiOf_eq c d hc hd (by omega)
  have l1 := loOf_eq a b ha hb
  have l2 := loOf_eq c d hc hd
  rw [hL1] at l1
  rw [hL2] at l2
  have k1 := hi_cases hH1 hZ1
  have k2 := hi_cases hH2 hZ2
  have w1 : wrap64 Z1 = Z1 := by unfold wrap64; omega
  have hfin : Hid (wrap64 (wrap64 (Z1 + Z2) + wrap64 (C : Int)) = (a * b + c * d) / 18446744073709551616 ∧ (S : Int) = (a * b + c * d) % 18446744073709551616) := Lib.hid (by
    have hs : (S : Int) = ((L1 : Int) + L2) % 18446744073709551616 := by omega
    have hcc : (C : Int) = ((L1 : Int) + L2) / 18446744073709551616 := by omega
    generalize a * b = P1 at *
    generalize c * d = P2 at *
    unfold wrap64
    constructor <;> omega)
  have HF := hfin
  clear hH1 hL1 hH2 hL2 hS hC hZ1 hZ2 z1 z2 l1 l2 hab hcd hfin L1b L2b
  obtain ⟨ha1, ha2⟩ := ha; obtain ⟨hb1, hb2⟩ := hb; obtain ⟨hc1, hc2⟩ := hc; obtain ⟨hd1, hd2⟩ := hd
  rcases k1 with ⟨sa, sb, e1⟩ | ⟨sa, sb, e1⟩ | ⟨sa, sb, e1⟩ | ⟨sa, sb, e1⟩
  all_goals
    rcases k2 with ⟨sc, sd, e2⟩ | ⟨sc, sd, e2⟩ | ⟨sc, sd, e2⟩ | ⟨sc, sd, e2⟩
  all_goals
    go_enter Try.func116, Try.ntmps116
    go_wp2
    refine wp_loop_rounds 3 ?_
    rw [rounds_succ]
    go_wp2_with ((go_at_call 128; refine (q1.out _).mono ?_; rintro e _ ⟨rfl, y1, rfl⟩))
    rw [rounds_succ]
    go_wp2_with ((go_at_call 128; refine (q2.out _).mono ?_; rintro e _ ⟨rfl, y2, rfl⟩))
    rw [rounds_succ]
    go_wp2
    exact bodyPost_ret (v := .agg #[.int .i64 (wrap64 (wrap64 (Z1 + Z2) + wrap64 (C : Int))), .int .u64 (S : Int)]) (by simp [results, Try.results116, go_sem]) rfl ⟨by rw [HF.out.1, HF.out.2], ext_of (by (try simp only [ext_ext]); repeat (first | exact Bel.refl _ | assumption | refine bel_and ?_ _ | refine bel_drews ?_ _ | refine Bel.ext ?_ _ | refine Bel.alloc ?_ _ | refine Bel.drewN ?_ _))⟩
end Go.Proofs.Ytkcpnclgcmnlcaa
