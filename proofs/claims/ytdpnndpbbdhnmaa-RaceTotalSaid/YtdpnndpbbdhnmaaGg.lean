/- Walks of the references; the orders agree; examples. -/
import Derived.Test.YtdpnndpbbdhnmaaRows
import Derived.ProofKit
import Derived.OpenShut
import Derived.ShutString
import Derived.ChangeOld
import Derived.Deep.Slices
import Derived.Test.YtdpnndpbbdhnmaaGf
set_option linter.unusedSimpArgs false
set_option linter.unusedVariables false
namespace Go.Proofs.Ytdpnndpbbdhnmaa
open Go Go.Tx Go.Pel
theorem cmpI64_eq (d : Nat) (a b : Int) : F_cmp_Compare_int64 d ((a, ()), (b, ()), ()) = some (cmpZ a b) := by
  simp only [F_cmp_Compare_int64, cmp_Compare_int64_K, cmp_Compare_int64_r0, cmp_Compare_int64_r1, cmp_Compare_int64_r2, cmp_Compare_int64_r3, cmp_Compare_int64_r4, cmp_Compare_int64_r5, cmp_Compare_int64_r6, cmp_Compare_int64_r7, cmp_Compare_int64_r8, cmp_Compare_int64_r9, cmp_Compare_int64_r10, cmp_Compare_int64_r11, cmp_Compare_int64_r12, cmp_Compare_int64_r13, F_cmp_isNaN_int64, cmp_isNaN_int64_K, cmp_isNaN_int64_r0, cmp_isNaN_int64_r1, Dt.eval, bne_self_eq_false, cond_false]
  unfold cmpZ
  by_cases h1 : a < b
  · simp only [h1, decide_true, cond_true, if_true]
  · by_cases h2 : b < a
    · simp only [h1, h2, gt_iff_lt, decide_true, decide_false, cond_true, cond_false, if_true, if_false]
    · simp only [h1, h2, gt_iff_lt, decide_false, cond_false, if_false]
theorem cmpU64_eq (d : Nat) (a b : Int) : F_cmp_Compare_uint64 d ((a, ()), (b, ()), ()) = some (cmpZ a b) := by
  simp only [F_cmp_Compare_uint64, cmp_Compare_uint64_K, cmp_Compare_uint64_r0, cmp_Compare_uint64_r1, cmp_Compare_uint64_r2, cmp_Compare_uint64_r3, cmp_Compare_uint64_r4, cmp_Compare_uint64_r5, cmp_Compare_uint64_r6, cmp_Compare_uint64_r7, cmp_Compare_uint64_r8, cmp_Compare_uint64_r9, cmp_Compare_uint64_r10, cmp_Compare_uint64_r11, cmp_Compare_uint64_r12, cmp_Compare_uint64_r13, F_cmp_isNaN_uint64, cmp_isNaN_uint64_K, cmp_isNaN_uint64_r0, cmp_isNaN_uint64_r1, Dt.eval, bne_self_eq_false, cond_false]
  unfold cmpZ
  by_cases h1 : a < b
  · simp only [h1, decide_true, cond_true, if_true]
  · by_cases h2 : b < a
    · simp only [h1, h2, gt_iff_lt, decide_true, decide_false, cond_true, cond_false, if_true, if_false]
    · simp only [h1, h2, gt_iff_lt, decide_false, cond_false, if_false]
theorem abs_eq (d : Nat) (a : Int) (h : i64B a = true) : F_ratio_abs d ((a, ()), ()) = some (a.natAbs : Int) := by
  have h := i64B_iff h
  simp only [F_ratio_abs, ratio_abs_K, ratio_abs_r0, ratio_abs_r1, ratio_abs_r2, ratio_abs_r3, Dt.eval]
  by_cases h1 : a < 0
  · simp only [h1, decide_true, cond_true, IntKind.wrap_u64]
    exact congrArg some (by omega : ((0 : Int) - a % 18446744073709551616) % 18446744073709551616 = (a.natAbs : Int))
  · simp only [h1, decide_false, cond_false, IntKind.wrap_u64]
    exact congrArg some (by omega : (a % 18446744073709551616 : Int) = (a.natAbs : Int))
theorem times_eq (d : Nat) (a b : Int) (ha : i64B a = true) (hb : i64B b = true) : F_ratio_times d ((a, ()), (b, ()), ()) = some (!((decide (a < 0)) == (decide (b < 0))), (((a * b).natAbs / 18446744073709551616 : Nat) : Int), (((a * b).natAbs % 18446744073709551616 : Nat) : Int)) := by
  have e1 := abs_eq d a ha
  have e2 := abs_eq d b hb
  have ha' := i64B_iff ha
  have hb' := i64B_iff hb
  have e3 : F_math_bits_Mul64 d (((a.natAbs : Int), ()), ((b.natAbs : Int), ()), ()) = some (((a.natAbs : Int) * (b.natAbs : Int)) / 18446744073709551616, ((a.natAbs : Int) * (b.natAbs : Int)) % 18446744073709551616) := by
    rw [F_math_bits_Mul64_eq _ _ (by unfold math_bits_Mul64_if u64B; simp only [Bool.and_eq_true, decide_eq_true_eq]; omega)]
  simp only [F_ratio_times, ratio_times_K, ratio_times_r0, ratio_times_r1, ratio_times_r2, Dt.eval, e1, e2, e3]
  rw [Int.natAbs_mul]
  simp
theorem ltZ (a b : Int) : cmpZ a b = -1 ∧ a < b ∨ cmpZ a b = 0 ∧ a = b ∨ cmpZ a b = 1 ∧ b < a := by
  unfold cmpZ
  repeat' split
  all_goals omega
theorem ratio_compare_eq (d : Nat) (n1 n2 : Bool) (P Q : Nat) : F_ratio_compare d ((n1, ((P / 18446744073709551616 : Nat) : Int), ((P % 18446744073709551616 : Nat) : Int), ()), (n2, ((Q / 18446744073709551616 : Nat) : Int), ((Q % 18446744073709551616 : Nat) : Int), ()), ()) = some (cmpZ (P : Int) (Q : Int)) := by
  simp only [F_ratio_compare, ratio_compare_K, ratio_compare_r0, ratio_compare_r1, ratio_compare_r2, ratio_compare_r3, ratio_compare_r4, Dt.eval, cmpU64_eq]
  rcases ltZ ((P / 18446744073709551616 : Nat) : Int) ((Q / 18446744073709551616 : Nat) : Int) with ⟨h1, h2⟩ | ⟨h1, h2⟩ | ⟨h1, h2⟩
  · simp only [h1, show ((-1 : Int) != 0) = true from rfl, cond_true]
    rw [cmpZ_lt (by omega)]
  · simp only [h1, show ((0 : Int) != 0) = false from rfl, cond_false]
    rcases ltZ (P : Int) (Q : Int) with ⟨k1, k2⟩ | ⟨k1, k2⟩ | ⟨k1, k2⟩
    · rw [k1, cmpZ_lt (by omega)]
    · rw [k1, cmpZ_eq (by omega)]
    · rw [k1, cmpZ_gt (by omega)]
  · simp only [h1, show ((1 : Int) != 0) = true from rfl, cond_true]
    rw [cmpZ_gt (by omega)]
theorem both_eq (d : Nat) (n1 d1 n2 d2 : Int) (h1 : i64B n1 = true) (h2 : i64B d1 = true) (h3 : i64B n2 = true) (h4 : i64B d2 = true) : F_ratio_both d ((n1, d1, ()), (n2, d2, ()), ()) = some (tmax (ratioChk n1 d1) (ratioChk n2 d2)) := by
  have e1 : F_ratio_Check d ((n1, d1, ()), ()) = some (ratioChk n1 d1) := F_ratio_Check_eq _ _ (by unfold ratio_Check_if; simp only [h1, h2, Bool.and_self])
  have e2 : F_ratio_Check d ((n2, d2, ()), ()) = some (ratioChk n2 d2) := F_ratio_Check_eq _ _ (by unfold ratio_Check_if; simp only [h3, h4, Bool.and_self])
  simp only [F_ratio_both, ratio_both_K, ratio_both_r0, ratio_both_r1, Dt.eval, e1, e2]
/-- fractions compared, and an error -/
def cmpR (n1 d1 n2 d2 : Int) : Int × Int := if ratioChk n1 d1 = 0 ∧ ratioChk n2 d2 = 0 then (cmpQ n1 d1 n2 d2, 0) else (0, 8)
theorem rCmp_eq (d : Nat) (n1 d1 n2 d2 : Int) (h1 : i64B n1 = true) (h2 : i64B d1 = true) (h3 : i64B n2 = true) (h4 : i64B d2 = true) : F_ratio_Cmp d ((n1, d1, ()), (n2, d2, ()), ()) = some (cmpR n1 d1 n2 d2) := by
  unfold cmpR
  have e0 := both_eq d n1 d1 n2 d2 h1 h2 h3 h4
  by_cases hc : ratioChk n1 d1 = 0 ∧ ratioChk n2 d2 = 0
  · rw [if_pos hc]
    rw [hc.1, hc.2] at e0
    obtain ⟨g1, _, _⟩ := ratioChk_zero hc.1
    obtain ⟨g2, _, _⟩ := ratioChk_zero hc.2
    have e1 := times_eq d n1 d2 h1 h4
    have e2 := times_eq d n2 d1 h3 h2
    have e3 := cmpI64_eq d n1 n2
    simp only [F_ratio_Cmp, ratio_Cmp_K, ratio_Cmp_r0, ratio_Cmp_r1, ratio_Cmp_r2, ratio_Cmp_r3, ratio_Cmp_r4, ratio_Cmp_r5, ratio_Cmp_r6, ratio_Cmp_r7, ratio_Cmp_r8, ratio_Cmp_r9, ratio_Cmp_J1, Dt.eval, e0, e1, e2, e3, ratio_compare_eq, show tmax 0 0 = 0 from rfl, show ((0 : Int) != 0) = false from rfl, cond_false]
    unfold cmpQ
    have p1 : 0 < d1 := by omega
    have p2 : 0 < d2 := by omega
    have s1 : (n1 < 0 → n1 * d2 < 0) ∧ (0 ≤ n1 → 0 ≤ n1 * d2) := ⟨fun h => Int.mul_neg_of_neg_of_pos h p2, fun h => Int.mul_nonneg h (by omega)⟩
    have s2 : (n2 < 0 → n2 * d1 < 0) ∧ (0 ≤ n2 → 0 ≤ n2 * d1) := ⟨fun h => Int.mul_neg_of_neg_of_pos h p1, fun h => Int.mul_nonneg h (by omega)⟩
    generalize n1 * d2 = P at *
    generalize n2 * d1 = Q at *
    by_cases k1 : n1 < 0 <;> by_cases k2 : n2 < 0 <;> simp only [k1, k2, decide_true, decide_false, beq_self_eq_true, Bool.not_true, Bool.not_false, cond_true, cond_false, Bool.false_beq, Bool.true_beq]
    · have := s1.1 k1
      have := s2.1 k2
      rcases ltZ (P.natAbs : Int) (Q.natAbs : Int) with ⟨g1, g2⟩ | ⟨g1, g2⟩ | ⟨g1, g2⟩
      · rw [g1, cmpZ_gt (a := P) (b := Q) (by omega)]; rfl
      · rw [g1, cmpZ_eq (a := P) (b := Q) (by omega)]; rfl
      · rw [g1, cmpZ_lt (a := P) (b := Q) (by omega)]; rfl
    · have := s1.1 k1
      have := s2.2 (by omega)
      rw [cmpZ_lt (by omega), cmpZ_lt (by omega)]
    · have := s1.2 (by omega)
      have := s2.1 k2
      rw [cmpZ_gt (by omega), cmpZ_gt (by omega)]
    · have := s1.2 (by omega)
      have := s2.2 (by omega)
      rw [show (P.natAbs : Int) = P by omega, show (Q.natAbs : Int) = Q by omega]
  · rw [if_neg hc]
    have e1 : tmax (ratioChk n1 d1) (ratioChk n2 d2) = 8 := by
      unfold tmax
      rcases ratioChk_cases n1 d1 with q1 | q1 <;> rcases ratioChk_cases n2 d2 with q2 | q2
      · exact absurd ⟨q1, q2⟩ hc
      all_goals rw [q1, q2]; rfl
    rw [e1] at e0
    simp only [F_ratio_Cmp, ratio_Cmp_K, ratio_Cmp_r0, ratio_Cmp_r1, ratio_Cmp_r2, ratio_Cmp_r3, Dt.eval, e0, show ((8 : Int) != 0) = true from rfl, cond_true]
theorem rSign_eq (d : Nat) (P : Int) : F_ref01_Sign d ((decide (P < 0), ((P.natAbs / 18446744073709551616 : Nat) : Int), ((P.natAbs % 18446744073709551616 : Nat) : Int), ()), ()) = some (cmpZ P 0) := by
  simp only [F_ref01_Sign, ref01_Sign_K, ref01_Sign_r0, ref01_Sign_r1, ref01_Sign_r2, ref01_Sign_r3, ref01_Sign_r4, ref01_Sign_r5, Dt.eval]
  by_cases h0 : P = 0
  · subst h0; rfl
  · have hne : ¬ (((P.natAbs / 18446744073709551616 : Nat) : Int) = 0 ∧ ((P.natAbs % 18446744073709551616 : Nat) : Int) = 0) := by omega
    have hh : (bif (((P.natAbs / 18446744073709551616 : Nat) : Int) == 0) then (((P.natAbs % 18446744073709551616 : Nat) : Int) == 0) else false) = false := by
      cases h1 : (((P.natAbs / 18446744073709551616 : Nat) : Int) == 0) with
      | false => rfl
      | true => rw [cond_true, beq_eq_false_iff_ne]; rw [beq_iff_eq] at h1; intro h2; exact hne ⟨h1, h2⟩
    cases h1 : (((P.natAbs / 18446744073709551616 : Nat) : Int) == 0) with
    | false =>
      simp only [cond_false]
      rcases ltZ P 0 with ⟨k1, k2⟩ | ⟨k1, k2⟩ | ⟨k1, k2⟩
      · simp only [k1, k2, decide_true, cond_true]
      · exact absurd k2 h0
      · simp only [k1, show ¬ P < 0 by omega, decide_false, cond_false]
    | true =>
      rw [h1, cond_true] at hh
      simp only [cond_true, hh, cond_false]
      rcases ltZ P 0 with ⟨k1, k2⟩ | ⟨k1, k2⟩ | ⟨k1, k2⟩
      · simp only [k1, k2, decide_true, cond_true]
      · exact absurd k2 h0
      · simp only [k1, show ¬ P < 0 by omega, decide_false, cond_false]
theorem rLess_eq (d : Nat) (n1 n2 : Bool) (P Q : Nat) : F_ref01_less d ((n1, ((P / 18446744073709551616 : Nat) : Int), ((P % 18446744073709551616 : Nat) : Int), ()), (n2, ((Q / 18446744073709551616 : Nat) : Int), ((Q % 18446744073709551616 : Nat) : Int), ()), ()) = some (cmpZ (P : Int) (Q : Int)) := by
  simp only [F_ref01_less, ref01_less_K, ref01_less_r0, ref01_less_r1, ref01_less_r2, ref01_less_r3, ref01_less_r4, ref01_less_r5, ref01_less_r6, ref01_less_r7, ref01_less_r8, ref01_less_r9, Dt.eval]
  obtain ⟨a, ha⟩ : ∃ a : Int, ((P / 18446744073709551616 : Nat) : Int) = a := ⟨_, rfl⟩
  obtain ⟨b, hb⟩ : ∃ a : Int, ((P % 18446744073709551616 : Nat) : Int) = a := ⟨_, rfl⟩
  obtain ⟨c, hc⟩ : ∃ a : Int, ((Q / 18446744073709551616 : Nat) : Int) = a := ⟨_, rfl⟩
  obtain ⟨e, he⟩ : ∃ a : Int, ((Q % 18446744073709551616 : Nat) : Int) = a := ⟨_, rfl⟩
  rw [ha, hb, hc, he]
  rcases ltZ a c with ⟨_, k2⟩ | ⟨_, k2⟩ | ⟨_, k2⟩
  · have e1 : (a != c) = true := by simp; omega
    simp only [e1, k2, decide_true, cond_true]
    rw [cmpZ_lt (by omega)]
  · have e1 : (a != c) = false := by simp; omega
    simp only [e1, cond_false]
    rcases ltZ b e with ⟨_, g2⟩ | ⟨_, g2⟩ | ⟨_, g2⟩
    · have e2 : (b != e) = true := by simp; omega
      simp only [e2, g2, decide_true, cond_true]
      rw [cmpZ_lt (by omega)]
    · have e2 : (b != e) = false := by simp; omega
      simp only [e2, cond_false]
      rw [cmpZ_eq (by omega)]
    · have e2 : (b != e) = true := by simp; omega
      simp only [e2, show ¬ b < e by omega, decide_false, cond_true, cond_false]
      rw [cmpZ_gt (by omega)]
  · have e1 : (a != c) = true := by simp; omega
    simp only [e1, show ¬ a < c by omega, decide_false, cond_true, cond_false]
    rw [cmpZ_gt (by omega)]
theorem rCompare_eq (d : Nat) (n1 d1 n2 d2 : Int) (h1 : i64B n1 = true) (h2 : i64B d1 = true) (h3 : i64B n2 = true) (h4 : i64B d2 = true) : F_ref01_Compare d ((n1, d1, ()), (n2, d2, ()), ()) = some (cmpQ n1 d1 n2 d2) := by
  have e1 : F_ref01_Product d ((n1, ()), (d2, ()), ()) = some (decide (n1 * d2 < 0), (((n1 * d2).natAbs / 18446744073709551616 : Nat) : Int), (((n1 * d2).natAbs % 18446744073709551616 : Nat) : Int)) := F_ref01_Product_eq _ _ (by unfold ref01_Product_if; simp only [h1, h4, Bool.and_self])
  have e2 : F_ref01_Product d ((n2, ()), (d1, ()), ()) = some (decide (n2 * d1 < 0), (((n2 * d1).natAbs / 18446744073709551616 : Nat) : Int), (((n2 * d1).natAbs % 18446744073709551616 : Nat) : Int)) := F_ref01_Product_eq _ _ (by unfold ref01_Product_if; simp only [h3, h2, Bool.and_self])
  unfold cmpQ
  generalize n1 * d2 = P at *
  generalize n2 * d1 = Q at *
  have hs := @cmp_sign P Q
  have hn := @cmp_neg P Q
  have hp := @cmp_pos P Q
  simp only [F_ref01_Compare, ref01_Compare_K, ref01_Compare_r0, ref01_Compare_r1, ref01_Compare_r2, ref01_Compare_r3, ref01_Compare_r4, ref01_Compare_r5, ref01_Compare_r6, ref01_Compare_r7, ref01_Compare_r8, Dt.eval, e1, e2, rSign_eq, rLess_eq]
  by_cases hg : cmpZ P 0 = cmpZ Q 0
  · have g1 : (cmpZ P 0 != cmpZ Q 0) = false := by simp [hg]
    simp only [g1, cond_false]
    by_cases h0 : cmpZ P 0 < 0
    · simp only [h0, decide_true, cond_true]; rw [hn hg h0]
    · simp only [h0, decide_false, cond_false]; rw [hp hg h0]
  · have g1 : (cmpZ P 0 != cmpZ Q 0) = true := by simp [hg]
    simp only [g1, cond_true]
    have := hs hg
    by_cases h0 : cmpZ P 0 < cmpZ Q 0
    · rw [if_pos h0] at this; simp only [h0, decide_true, cond_true]; rw [this]
    · rw [if_neg h0] at this; simp only [h0, decide_false, cond_false]; rw [this]
end Go.Proofs.Ytdpnndpbbdhnmaa

namespace Go.Tx
open Go
end Go.Tx

namespace Go.Pel
open Go Go.Tx
abbrev T3 : Type := Int × Int × Int × Unit
abbrev M4 : Type := Int × Int × Int × Int × Unit
theorem q_le {a b c d1 d2 d3 : Int} (h1 : 1 ≤ d1) (h2 : 1 ≤ d2) (h3 : 1 ≤ d3) (h : a * d2 ≤ b * d1) (k : b * d3 ≤ c * d2) : a * d3 ≤ c * d1 := by
  have e1 : a * d3 * d2 ≤ c * d1 * d2 := by
    have := Int.mul_le_mul_of_nonneg_right h (show (0 : Int) ≤ d3 by omega)
    have := Int.mul_le_mul_of_nonneg_right k (show (0 : Int) ≤ d1 by omega)
    rw [Int.mul_right_comm a d3 d2, Int.mul_right_comm c d1 d2]
    have e : b * d1 * d3 = b * d3 * d1 := Int.mul_right_comm b d1 d3
    omega
  exact Int.le_of_mul_le_mul_right e1 (by omega)
theorem q_lt {a b c d1 d2 d3 : Int} (h1 : 1 ≤ d1) (h2 : 1 ≤ d2) (h3 : 1 ≤ d3) (h : a * d2 < b * d1) (k : b * d3 ≤ c * d2) : a * d3 < c * d1 := by
  have e1 : a * d3 * d2 < c * d1 * d2 := by
    have := Int.mul_lt_mul_of_pos_right h (show (0 : Int) < d3 by omega)
    have := Int.mul_le_mul_of_nonneg_right k (show (0 : Int) ≤ d1 by omega)
    rw [Int.mul_right_comm a d3 d2, Int.mul_right_comm c d1 d2]
    have e : b * d1 * d3 = b * d3 * d1 := Int.mul_right_comm b d1 d3
    omega
  exact Int.lt_of_mul_lt_mul_right e1 (by omega)
theorem q_lt' {a b c d1 d2 d3 : Int} (h1 : 1 ≤ d1) (h2 : 1 ≤ d2) (h3 : 1 ≤ d3) (h : a * d2 ≤ b * d1) (k : b * d3 < c * d2) : a * d3 < c * d1 := by
  have e1 : a * d3 * d2 < c * d1 * d2 := by
    have := Int.mul_le_mul_of_nonneg_right h (show (0 : Int) ≤ d3 by omega)
    have := Int.mul_lt_mul_of_pos_right k (show (0 : Int) < d1 by omega)
    rw [Int.mul_right_comm a d3 d2, Int.mul_right_comm c d1 d2]
    have e : b * d1 * d3 = b * d3 * d1 := Int.mul_right_comm b d1 d3
    omega
  exact Int.lt_of_mul_lt_mul_right e1 (by omega)
/-- fractions in lowest terms are equal if their values are -/
theorem q_eq {a b d1 d2 : Int} (h1 : ratioChk a d1 = 0) (h2 : ratioChk b d2 = 0) (h : a * d2 = b * d1) : a = b ∧ d1 = d2 := by
  obtain ⟨p1, _, g1⟩ := ratioChk_zero h1
  obtain ⟨p2, _, g2⟩ := ratioChk_zero h2
  have hn : a.natAbs * d2.toNat = b.natAbs * d1.toNat := by
    have := congrArg Int.natAbs h
    rw [Int.natAbs_mul, Int.natAbs_mul] at this
    rwa [show d2.natAbs = d2.toNat by omega, show d1.natAbs = d1.toNat by omega] at this
  have k1 : d1.toNat ∣ d2.toNat := Nat.Coprime.dvd_of_dvd_mul_left (k := d1.toNat) (m := a.natAbs) (n := d2.toNat) g1 ⟨b.natAbs, by rw [hn, Nat.mul_comm]⟩
  have k2 : d2.toNat ∣ d1.toNat := Nat.Coprime.dvd_of_dvd_mul_left (k := d2.toNat) (m := b.natAbs) (n := d1.toNat) g2 ⟨a.natAbs, by rw [← hn, Nat.mul_comm]⟩
  have e : d1.toNat = d2.toNat := Nat.dvd_antisymm k1 k2
  have e' : d1 = d2 := by omega
  subst e'
  exact ⟨Int.eq_of_mul_eq_mul_right (by omega) h, rfl⟩
def okM (x : M4) : Prop := ratioChk x.1 x.2.1 = 0
theorem mk_ok {n d : Int} (hd : d ≠ 0) (hn : n.natAbs ≤ 4194304) (hd2 : d.natAbs ≤ 4194304) : (mk n d).2.2 = 0 ∧ ratioChk (mk n d).1 (mk n d).2.1 = 0 ∧ (mk n d).1.natAbs ≤ 4194304 ∧ (mk n d).2.1 ≤ 4194304 := by
  have hg := mk_gcd_pos (n := n) hd
  rw [mk_some hd]
  have b1 : n.natAbs / Nat.gcd n.natAbs d.natAbs ≤ n.natAbs := Nat.div_le_self _ _
  have b2 : d.natAbs / Nat.gcd n.natAbs d.natAbs ≤ d.natAbs := Nat.div_le_self _ _
  have b3 : 1 ≤ d.natAbs / Nat.gcd n.natAbs d.natAbs := Nat.div_pos (Nat.gcd_le_right _ (by omega)) hg
  have hc : Nat.gcd (d.natAbs / Nat.gcd n.natAbs d.natAbs) (n.natAbs / Nat.gcd n.natAbs d.natAbs) = 1 := by
    rw [Nat.gcd_comm]; exact Nat.coprime_div_gcd_div_gcd hg
  generalize n.natAbs / Nat.gcd n.natAbs d.natAbs = A at *
  generalize d.natAbs / Nat.gcd n.natAbs d.natAbs = B at *
  have hno : ¬ (0 < 0 ∨ 9223372036854775807 < A ∨ 0 < 0 ∨ 9223372036854775807 < B) := by omega
  cases (decide (n < 0) != decide (d < 0)) with
  | true =>
    rw [bld_neg hno]
    refine ⟨rfl, ratioChk_one (by simp only; omega) (by simp only; omega) ?_, by simp only; omega, by simp only; omega⟩
    simp only [Int.toNat_natCast, Int.natAbs_neg, Int.natAbs_natCast]; exact hc
  | false =>
    rw [bld_pos hno]
    refine ⟨rfl, ratioChk_one (by simp only; omega) (by simp only; omega) ?_, by simp only; omega, by simp only; omega⟩
    simp only [Int.toNat_natCast, Int.natAbs_natCast]; exact hc
/-- where two points meet -/
def mtP (x : T3 × T3) : Option M4 := if x.1.2.2.1 = x.2.2.2.1 then none else some ((mk (x.1.2.1 - x.2.2.1) (x.2.2.2.1 - x.1.2.2.1)).1, (mk (x.1.2.1 - x.2.2.1) (x.2.2.2.1 - x.1.2.2.1)).2.1, x.1.1, x.2.1, ())
def okP (p : T3) : Prop := (ofP p).chk = 0
/-- a field is valid -/
structure FldOk (l : List T3) : Prop where
  len : l.length ≤ 64
  ok : ∀ p ∈ l, okP p
  inc : l.Pairwise fun p q => p.1 < q.1
end Go.Pel

namespace Go.Tx
end Go.Tx
namespace Go.Proofs.Ytdpnndpbbdhnmaa
open Go Go.Tx Go.Pel
theorem i64B_of {a : Int} (h : a.natAbs ≤ 9223372036854775807) : i64B a = true := by
  unfold i64B; simp only [Bool.and_eq_true, decide_eq_true_eq]; omega
structure okW (x : M4) : Prop where
  ok : okM x
  n : x.1.natAbs ≤ 4194304
  d : x.2.1 ≤ 4194304
theorem okW.b1 {x : M4} (h : okW x) : i64B x.1 = true := i64B_of (by have := h.n; omega)
theorem okW.b2 {x : M4} (h : okW x) : i64B x.2.1 = true := i64B_of (by have := h.d; have := (ratioChk_zero h.ok).1; omega)
theorem pt_bd {p : T3} (h : okP p) : 0 ≤ p.1 ∧ p.1 ≤ 65535 ∧ -1048576 ≤ p.2.1 ∧ p.2.1 ≤ 1048576 ∧ -1048576 ≤ p.2.2.1 ∧ p.2.2.1 ≤ 1048576 := pointChk_zero (show pointChk p.1 p.2.1 p.2.2.1 = 0 from h)
theorem meet_eq (d : Nat) {p q : T3} (hp : okP p) (hq : okP q) (hi : p.1 ≠ q.1) : F_course_Meet d ((p.1, p.2.1, p.2.2.1, ()), (q.1, q.2.1, q.2.2.1, ()), ()) =
    some (if p.2.2.1 = q.2.2.1 then (0, 0, 6) else ((mk (p.2.1 - q.2.1) (q.2.2.1 - p.2.2.1)).1, (mk (p.2.1 - q.2.1) (q.2.2.1 - p.2.2.1)).2.1, 0)) := by
  obtain ⟨_, _, a1, a2, a3, a4⟩ := pt_bd hp
  obtain ⟨_, _, b1, b2, b3, b4⟩ := pt_bd hq
  have e1 : F_course_two d ((p.1, p.2.1, p.2.2.1, ()), (q.1, q.2.1, q.2.2.1, ()), ((0 : Int), (1 : Int), ()), ()) = some 0 := by
    rw [F_course_two_eq _ _ (by rfl)]
    exact congrArg some (twoChk_ok ⟨hp, hq, show ratioChk 0 1 = 0 by decide⟩ hi)
  have w1 : IntKind.wrap .i64 (p.2.1 - q.2.1) = p.2.1 - q.2.1 := IntWalk.i64_in _ (by omega)
  have w2 : IntKind.wrap .i64 (q.2.2.1 - p.2.2.1) = q.2.2.1 - p.2.2.1 := IntWalk.i64_in _ (by omega)
  have e2 : F_ratio_Make d ((p.2.1 - q.2.1, ()), (q.2.2.1 - p.2.2.1, ()), ()) = some ((mk (p.2.1 - q.2.1) (q.2.2.1 - p.2.2.1)).1, (mk (p.2.1 - q.2.1) (q.2.2.1 - p.2.2.1)).2.1, (mk (p.2.1 - q.2.1) (q.2.2.1 - p.2.2.1)).2.2) :=
    F_ratio_Make_eq _ _ (by unfold ratio_Make_if; simp only; rw [i64B_of (by omega), i64B_of (by omega)]; rfl)
  simp only [F_course_Meet, course_Meet_K, course_Meet_r0, course_Meet_r1, course_Meet_r2, course_Meet_r3, course_Meet_r4, course_Meet_r5, course_Meet_r6, Dt.eval, e1, show ((0 : Int) != 0) = false from rfl, cond_false]
  by_cases hb : p.2.2.1 = q.2.2.1
  · simp only [hb, beq_self_eq_true, cond_true, if_true]
  · have hb' : (p.2.2.1 == q.2.2.1) = false := by simpa using hb
    have h0 := (mk_ok (n := p.2.1 - q.2.1) (d := q.2.2.1 - p.2.2.1) (by omega) (by omega) (by omega)).1
    simp only [hb', cond_false, hb, if_false, w1, w2, e2, h0]
    rfl
end Go.Proofs.Ytdpnndpbbdhnmaa

namespace Go.Pel
open Go Go.Tx
/-- a meeting is behind a time -/
def gtM (n dd : Int) (x : M4) : Bool := decide (0 < cmpQ x.1 x.2.1 n dd)
theorem gtM_iff (n dd : Int) (x : M4) : gtM n dd x = true ↔ n * x.2.1 < x.1 * dd := by
  unfold gtM cmpQ cmpZ
  rw [decide_eq_true_eq]
  repeat' split
  all_goals omega
end Go.Pel
namespace Go.Proofs.Ytdpnndpbbdhnmaa
open Go Go.Tx Go.Pel
/-- the check of a field and a time -/
def chk1 (l : List T3) (n dd : Int) : Int := if fieldChk (ptsL l) ≠ 0 then fieldChk (ptsL l) else ratioChk n dd
def chk2 (l : List T3) (n dd n' dd' : Int) : Int := if fieldChk (ptsL l) ≠ 0 then fieldChk (ptsL l) else if ratioChk n dd ≠ 0 then ratioChk n dd else if ratioChk n' dd' ≠ 0 then ratioChk n' dd' else if 0 < cmpQ n dd n' dd' then 2 else 0
theorem fldOk_of {l : List T3} (h : fieldChk (ptsL l) = 0) : FldOk l := by
  obtain ⟨h1, h2, h3⟩ := fieldChk_zero h
  rw [ptsL_len] at h1
  refine ⟨h1, fun p hp => h2 _ (List.mem_map_of_mem hp), ?_⟩
  rw [List.pairwise_iff_getElem]
  intro i j hi hj hij
  have hg : ∀ k (hk : k < l.length), (ptsL l)[k]? = some (ofP l[k]) := fun k hk => by unfold ptsL; rw [List.getElem?_map, List.getElem?_eq_getElem hk]; rfl
  exact inc_lt h3 hij (hg i hi) (hg j hj)
end Go.Proofs.Ytdpnndpbbdhnmaa

namespace Go.Pel
open Go Go.Tx
end Go.Pel
namespace Go.Proofs.Ytdpnndpbbdhnmaa
open Go Go.Tx Go.Pel
theorem wrap_succ {k : Nat} (h : k < 1000000) : IntKind.wrap .i64 ((k : Int) + 1) = ((k + 1 : Nat) : Int) := by rw [IntWalk.i64_in _ (by omega)]; omega
theorem elt_some {α : Type} {z : α} {l : List α} {k : Nat} {x : α} (h : l[k]? = some x) : elt z l (k : Int).toNat = x := by unfold elt; rw [Int.toNat_natCast, h]; rfl
theorem inB_of {k n : Nat} (h : k < n) : inB (k : Int) n = true := inB_iff.2 ⟨by omega, by omega⟩
theorem dec_lt {a b : Nat} (h : a < b) : decide ((a : Int) < (b : Int)) = true := by rw [decide_eq_true_eq]; omega
theorem dec_nlt {a b : Nat} (h : ¬ a < b) : decide ((a : Int) < (b : Int)) = false := by rw [decide_eq_false_iff_not]; omega
theorem drop_of {α : Type} {l : List α} {k : Nat} {x : α} (h : l[k]? = some x) : l.drop k = x :: l.drop (k + 1) := by
  obtain ⟨h1, rfl⟩ := List.getElem?_eq_some_iff.1 h
  exact List.drop_eq_getElem_cons h1
end Go.Proofs.Ytdpnndpbbdhnmaa

namespace Go.Proofs.Ytdpnndpbbdhnmaa
open Go Go.Tx Go.Pel
theorem rChk_eq (d : Nat) {n dd : Int} (hn : i64B n = true) (hd : i64B dd = true) : F_ref01_Check d ((n, dd, ()), ()) = some (ratioChk n dd) := F_ref01_Check_eq _ _ (by unfold ref01_Check_if; simp only [hn, hd, Bool.and_self])
theorem rBoth_eq (d : Nat) {n dd n' dd' : Int} (hn : i64B n = true) (hd : i64B dd = true) (hn' : i64B n' = true) (hd' : i64B dd' = true) : F_ref01_Both d ((n, dd, ()), (n', dd', ()), ()) = some (if ratioChk n dd ≠ 0 then ratioChk n dd else ratioChk n' dd') := by
  have e1 := rChk_eq d hn hd
  have e2 := rChk_eq d hn' hd'
  simp only [F_ref01_Both, ref01_Both_K, ref01_Both_r0, ref01_Both_r1, ref01_Both_r2, ref01_Both_r3, Dt.eval, e1, e2]
  by_cases h : ratioChk n dd = 0
  · simp only [h, show ((0 : Int) != 0) = false from rfl, cond_false, ne_eq, not_true_eq_false, if_false]
  · simp only [show (ratioChk n dd != 0) = true by simpa using h, cond_true, ne_eq, h, not_false_eq_true, if_true]
theorem i64B_in {a : Int} (h : -9223372036854775808 ≤ a ∧ a ≤ 9223372036854775807) : i64B a = true := by
  unfold i64B; simp only [Bool.and_eq_true, decide_eq_true_eq]; exact h
end Go.Proofs.Ytdpnndpbbdhnmaa

namespace Go.Pel
open Go Go.Tx
/-- not before in time -/
def leQ (n dd n' dd' : Int) : Prop := n * dd' ≤ n' * dd
theorem leQ_iff (n dd n' dd' : Int) : leQ n dd n' dd' ↔ ¬ 0 < cmpQ n dd n' dd' := by
  unfold leQ cmpQ cmpZ
  repeat' split
  all_goals omega
theorem gtM_le {n dd n' dd' : Int} (hd : 1 ≤ dd) (hd' : 1 ≤ dd') (hle : leQ n dd n' dd') {x : M4} (hx : okM x) (h : gtM n' dd' x = true) : gtM n dd x = true := by
  have o1 := (ratioChk_zero hx).1
  rw [gtM_iff] at h ⊢
  exact q_lt' hd hd' o1 hle h
end Go.Pel
namespace Go.Proofs.Ytdpnndpbbdhnmaa
open Go Go.Tx Go.Pel
theorem chk2_zero {l : List T3} {n dd n' dd' : Int} (h : chk2 l n dd n' dd' = 0) : FldOk l ∧ ratioChk n dd = 0 ∧ ratioChk n' dd' = 0 ∧ leQ n dd n' dd' := by
  unfold chk2 at h
  by_cases h1 : fieldChk (ptsL l) = 0
  · rw [if_neg (by simpa using h1)] at h
    by_cases h2 : ratioChk n dd = 0
    · rw [if_neg (by simpa using h2)] at h
      by_cases h3 : ratioChk n' dd' = 0
      · rw [if_neg (by simpa using h3)] at h
        by_cases h4 : 0 < cmpQ n dd n' dd'
        · rw [if_pos h4] at h; cases h
        · exact ⟨fldOk_of h1, h2, h3, (leQ_iff ..).2 h4⟩
      · rw [if_pos h3] at h; exact absurd h h3
    · rw [if_pos h2] at h; exact absurd h h2
  · rw [if_pos h1] at h; exact absurd h h1
end Go.Proofs.Ytdpnndpbbdhnmaa

namespace Go.Tx
end Go.Tx
namespace Go.Proofs.Ytdpnndpbbdhnmaa
open Go Go.Tx Go.Pel
theorem mAhead_eq (d : Nat) {p q : T3} (hp : okP p) (hq : okP q) (hi : p.1 ≠ q.1) {n dd : Int} (hn : i64B n = true) (hd : i64B dd = true) (hr : ratioChk n dd = 0) : F_course_Ahead d ((p.1, p.2.1, p.2.2.1, ()), (q.1, q.2.1, q.2.2.1, ()), (n, dd, ()), ()) = some (leads (ofP p) (ofP q) n dd, 0) := by
  rw [F_course_Ahead_eq _ _ (by unfold course_Ahead_if; simp only [hn, hd, Bool.and_self])]
  have h : twoChk (ofP p) (ofP q) n dd = 0 := twoChk_ok ⟨hp, hq, hr⟩ hi
  show some ((aheadV (ofP p) (ofP q) n dd).1, (aheadV (ofP p) (ofP q) n dd).2) = _
  unfold aheadV
  rw [if_pos h]
end Go.Proofs.Ytdpnndpbbdhnmaa

namespace Go.Pel
open Go Go.Tx
theorem leQ_trans {a b c d1 d2 d3 : Int} (h1 : 1 ≤ d1) (h2 : 1 ≤ d2) (h3 : 1 ≤ d3) (h : leQ a d1 b d2) (k : leQ b d2 c d3) : leQ a d1 c d3 := q_le h1 h2 h3 h k
theorem cut_get {α : Type} {L : List α} {f t : Nat} (h1 : f < t) : ((L.take t).drop f)[0]? = L[f]? := by
  rw [List.getElem?_drop, Nat.add_zero, List.getElem?_take, if_pos h1]
end Go.Pel
namespace Go.Proofs.Ytdpnndpbbdhnmaa
open Go Go.Tx Go.Pel
theorem chk2_fld {l : List T3} {n dd n' dd' : Int} (h : chk2 l n dd n' dd' = 0) : fieldChk (ptsL l) = 0 := by
  unfold chk2 at h
  by_cases h1 : fieldChk (ptsL l) = 0
  · exact h1
  · rw [if_pos h1] at h; exact absurd h h1
end Go.Proofs.Ytdpnndpbbdhnmaa

namespace Go.Pel
open Go Go.Tx
theorem mk_mul {n d : Int} (hd : d ≠ 0) (hn : n.natAbs ≤ 4194304) (hd2 : d.natAbs ≤ 4194304) : (mk n d).1 * d = n * (mk n d).2.1 := by
  have hg := mk_gcd_pos (n := n) hd
  rw [mk_some hd]
  have b1 : n.natAbs / Nat.gcd n.natAbs d.natAbs ≤ n.natAbs := Nat.div_le_self _ _
  have b2 : d.natAbs / Nat.gcd n.natAbs d.natAbs ≤ d.natAbs := Nat.div_le_self _ _
  have e1 : Nat.gcd n.natAbs d.natAbs * (n.natAbs / Nat.gcd n.natAbs d.natAbs) = n.natAbs := Nat.mul_div_cancel' (Nat.gcd_dvd_left _ _)
  have e2 : Nat.gcd n.natAbs d.natAbs * (d.natAbs / Nat.gcd n.natAbs d.natAbs) = d.natAbs := Nat.mul_div_cancel' (Nat.gcd_dvd_right _ _)
  have e3 := (fun (G A B N D : Nat) (k1 : G * A = N) (k2 : G * B = D) => (by subst k1 k2; rw [Nat.mul_left_comm, Nat.mul_assoc] : A * D = N * B)) _ _ _ _ _ e1 e2
  generalize n.natAbs / Nat.gcd n.natAbs d.natAbs = A at *
  generalize d.natAbs / Nat.gcd n.natAbs d.natAbs = B at *
  have e4 : (A : Int) * (d.natAbs : Int) = (n.natAbs : Int) * (B : Int) := by exact_mod_cast e3
  have hno : ¬ (0 < 0 ∨ 9223372036854775807 < A ∨ 0 < 0 ∨ 9223372036854775807 < B) := by omega
  by_cases h1 : n < 0 <;> by_cases h2 : d < 0
  · rw [show (decide (n < 0) != decide (d < 0)) = false by simp [h1, h2], bld_pos hno]
    rw [show (d.natAbs : Int) = -d by omega, show (n.natAbs : Int) = -n by omega, Int.mul_neg, Int.neg_mul] at e4
    show (A : Int) * d = n * (B : Int)
    omega
  · rw [show (decide (n < 0) != decide (d < 0)) = true by simp [h1, h2], bld_neg hno]
    rw [show (d.natAbs : Int) = d by omega, show (n.natAbs : Int) = -n by omega, Int.neg_mul] at e4
    show -(A : Int) * d = n * (B : Int)
    rw [Int.neg_mul]; omega
  · rw [show (decide (n < 0) != decide (d < 0)) = true by simp [h1, h2], bld_neg hno]
    rw [show (d.natAbs : Int) = -d by omega, show (n.natAbs : Int) = n by omega, Int.mul_neg] at e4
    show -(A : Int) * d = n * (B : Int)
    rw [Int.neg_mul]; omega
  · rw [show (decide (n < 0) != decide (d < 0)) = false by simp [h1, h2], bld_pos hno]
    rw [show (d.natAbs : Int) = d by omega, show (n.natAbs : Int) = n by omega] at e4
    exact e4
theorem sg_pos {F D B X : Int} (hD : 0 < D) (hB : 0 < B) (h : F * D = B * X) : (0 < F ↔ 0 < X) ∧ (F = 0 ↔ X = 0) := by
  have f : (0 < F ∧ 0 < F * D) ∨ (F = 0 ∧ F * D = 0) ∨ (F < 0 ∧ F * D < 0) := by
    rcases (by omega : 0 < F ∨ F = 0 ∨ F < 0) with k | k | k
    · exact .inl ⟨k, Int.mul_pos k hD⟩
    · exact .inr (.inl ⟨k, by rw [k, Int.zero_mul]⟩)
    · exact .inr (.inr ⟨k, Int.mul_neg_of_neg_of_pos k hD⟩)
  have g : (0 < X ∧ 0 < B * X) ∨ (X = 0 ∧ B * X = 0) ∨ (X < 0 ∧ B * X < 0) := by
    rcases (by omega : 0 < X ∨ X = 0 ∨ X < 0) with k | k | k
    · exact .inl ⟨k, Int.mul_pos hB k⟩
    · exact .inr (.inl ⟨k, by rw [k, Int.mul_zero]⟩)
    · exact .inr (.inr ⟨k, Int.mul_neg_of_pos_of_neg hB k⟩)
  generalize F * D = U at *
  generalize B * X = V at *
  omega
theorem sg_neg {F D B X : Int} (hD : 0 < D) (hB : B < 0) (h : F * D = B * X) : (0 < F ↔ X < 0) ∧ (F = 0 ↔ X = 0) := by
  have := sg_pos (F := F) (B := -B) (X := -X) hD (by omega) (by rw [Int.neg_mul_neg]; exact h)
  omega
theorem leads_sg {p q : Pt} {n d : Int} : leads p q n d = true ↔ 0 < farD p q n d ∨ (farD p q n d = 0 ∧ (q.b < p.b ∨ (p.b = q.b ∧ p.id < q.id))) := by
  unfold leads
  by_cases h : farD p q n d = 0
  · rw [if_neg (by omega)]
    by_cases hb : p.b = q.b
    · rw [if_neg (by omega), decide_eq_true_eq]; omega
    · rw [if_pos hb, decide_eq_true_eq]; omega
  · rw [if_pos h, decide_eq_true_eq]; omega
theorem pt_bd' {p : T3} (h : okP p) : 0 ≤ p.1 ∧ p.1 ≤ 65535 ∧ -1048576 ≤ p.2.1 ∧ p.2.1 ≤ 1048576 ∧ -1048576 ≤ p.2.2.1 ∧ p.2.2.1 ≤ 1048576 := pointChk_zero (show pointChk p.1 p.2.1 p.2.2.1 = 0 from h)
/-- a meeting is a time at which both are at the same place -/
theorem mtP_eq {x : T3 × T3} (hp : okP x.1) (hq : okP x.2) {m : M4} (h : mtP x = some m) : x.1.2.2.1 ≠ x.2.2.2.1 ∧ okM m ∧ m.1.natAbs ≤ 4194304 ∧ m.2.1 ≤ 4194304 ∧ m.2.2.1 = x.1.1 ∧ m.2.2.2.1 = x.2.1 ∧ (x.1.2.1 - x.2.2.1) * m.2.1 + (x.1.2.2.1 - x.2.2.2.1) * m.1 = 0 := by
  obtain ⟨_, _, a1, a2, a3, a4⟩ := pt_bd' hp
  obtain ⟨_, _, b1, b2, b3, b4⟩ := pt_bd' hq
  unfold mtP at h
  by_cases hb : x.1.2.2.1 = x.2.2.2.1
  · rw [if_pos hb] at h; cases h
  · rw [if_neg hb] at h
    injection h with h
    subst h
    obtain ⟨_, h2, h3, h4⟩ := mk_ok (n := x.1.2.1 - x.2.2.1) (d := x.2.2.2.1 - x.1.2.2.1) (by omega) (by omega) (by omega)
    have h5 := mk_mul (n := x.1.2.1 - x.2.2.1) (d := x.2.2.2.1 - x.1.2.2.1) (by omega) (by omega) (by omega)
    refine ⟨hb, h2, h3, h4, rfl, rfl, ?_⟩
    show (x.1.2.1 - x.2.2.1) * (mk (x.1.2.1 - x.2.2.1) (x.2.2.2.1 - x.1.2.2.1)).2.1 + (x.1.2.2.1 - x.2.2.2.1) * (mk (x.1.2.1 - x.2.2.1) (x.2.2.2.1 - x.1.2.2.1)).1 = 0
    rw [← h5, Int.mul_comm (x.1.2.2.1 - x.2.2.2.1), ← Int.mul_add, show x.2.2.2.1 - x.1.2.2.1 + (x.1.2.2.1 - x.2.2.2.1) = 0 by omega, Int.mul_zero]
theorem leads_mt {x : T3 × T3} (hp : okP x.1) (hq : okP x.2) {m : M4} (h : mtP x = some m) {n dd : Int} : leads (ofP x.1) (ofP x.2) n dd = (if x.2.2.2.1 < x.1.2.2.1 then !gtM n dd m else gtM n dd m) := by
  obtain ⟨hb, hm, _, _, _, _, e⟩ := mtP_eq hp hq h
  have hD := (ratioChk_zero hm).1
  have key : farD (ofP x.1) (ofP x.2) n dd * m.2.1 = (x.1.2.2.1 - x.2.2.2.1) * (n * m.2.1 - m.1 * dd) := by
    show ((x.1.2.1 - x.2.2.1) * dd + (x.1.2.2.1 - x.2.2.2.1) * n) * m.2.1 = _
    rw [Int.add_mul, Int.mul_sub, Int.mul_right_comm (x.1.2.1 - x.2.2.1), show (x.1.2.1 - x.2.2.1) * m.2.1 = -((x.1.2.2.1 - x.2.2.2.1) * m.1) by omega, Int.neg_mul, Int.mul_assoc, Int.mul_assoc]
    omega
  have hg := gtM_iff n dd m
  have hl := leads_sg (p := ofP x.1) (q := ofP x.2) (n := n) (d := dd)
  have hbb : (ofP x.2).b < (ofP x.1).b ↔ x.2.2.2.1 < x.1.2.2.1 := Iff.rfl
  have hbe : (ofP x.1).b = (ofP x.2).b ↔ x.1.2.2.1 = x.2.2.2.1 := Iff.rfl
  by_cases hlt : x.2.2.2.1 < x.1.2.2.1
  · obtain ⟨s1, s2⟩ := sg_pos (by omega : 0 < m.2.1) (by omega : 0 < x.1.2.2.1 - x.2.2.2.1) key
    rw [if_pos hlt]
    cases h1 : gtM n dd m with
    | true =>
      rw [h1] at hg
      have := hg.1 rfl
      cases h2 : leads (ofP x.1) (ofP x.2) n dd with
      | false => rfl
      | true => rw [h2] at hl; have := hl.1 rfl; omega
    | false =>
      rw [h1] at hg
      have : ¬ n * m.2.1 < m.1 * dd := fun k => by cases hg.2 k
      exact hl.2 (by omega)
  · obtain ⟨s1, s2⟩ := sg_neg (by omega : 0 < m.2.1) (by omega : x.1.2.2.1 - x.2.2.2.1 < 0) key
    rw [if_neg hlt]
    cases h1 : gtM n dd m with
    | true =>
      rw [h1] at hg
      have := hg.1 rfl
      exact hl.2 (by omega)
    | false =>
      rw [h1] at hg
      have : ¬ n * m.2.1 < m.1 * dd := fun k => by cases hg.2 k
      cases h2 : leads (ofP x.1) (ofP x.2) n dd with
      | false => rfl
      | true => rw [h2] at hl; have := hl.1 rfl; omega
theorem leads_same {p q : T3} (hb : p.2.2.1 = q.2.2.1) {n dd n' dd' : Int} (hd : 1 ≤ dd) (hd' : 1 ≤ dd') : leads (ofP p) (ofP q) n dd = leads (ofP p) (ofP q) n' dd' := by
  have f : ∀ {n d : Int}, 1 ≤ d → (0 < farD (ofP p) (ofP q) n d ↔ 0 < p.2.1 - q.2.1) ∧ (farD (ofP p) (ofP q) n d = 0 ↔ p.2.1 - q.2.1 = 0) := fun {n d} h => by
    have e : farD (ofP p) (ofP q) n d = (p.2.1 - q.2.1) * d := by
      show (p.2.1 - q.2.1) * d + (p.2.2.1 - q.2.2.1) * n = _
      rw [hb, Int.sub_self, Int.zero_mul, Int.add_zero]
    have := sg_pos (F := p.2.1 - q.2.1) (D := d) (B := 1) (X := farD (ofP p) (ofP q) n d) (by omega) (by omega) (by rw [e, Int.one_mul])
    omega
  obtain ⟨f1, f2⟩ := f (n := n) hd
  obtain ⟨g1, g2⟩ := f (n := n') hd'
  rw [Bool.eq_iff_iff, leads_sg, leads_sg]
  have hbb : (ofP p).b = (ofP q).b := hb
  omega
end Go.Pel
namespace Go.Proofs.Ytdpnndpbbdhnmaa
open Go Go.Tx Go.Pel
end Go.Proofs.Ytdpnndpbbdhnmaa

namespace Go.Pel
open Go Go.Tx
theorem leads_self (p : Pt) (n d : Int) : leads p p n d = false := by
  cases h : leads p p n d with
  | false => rfl
  | true =>
    have := leads_sg.1 h
    have e : farD p p n d = 0 := by unfold farD; rw [Int.sub_self, Int.sub_self, Int.zero_mul, Int.zero_mul]; rfl
    omega
theorem leads_asym {p q : Pt} {n d : Int} (hi : p.id ≠ q.id) : leads q p n d = !leads p q n d := by
  have e : farD q p n d = -farD p q n d := by
    unfold farD
    rw [show q.a - p.a = -(p.a - q.a) by omega, show q.b - p.b = -(p.b - q.b) by omega, Int.neg_mul, Int.neg_mul]
    omega
  have h1 := leads_sg (p := p) (q := q) (n := n) (d := d)
  have h2 := leads_sg (p := q) (q := p) (n := n) (d := d)
  cases k1 : leads p q n d <;> cases k2 : leads q p n d
  · rw [k1] at h1; rw [k2] at h2
    have a1 : ¬ (0 < farD p q n d ∨ (farD p q n d = 0 ∧ (q.b < p.b ∨ (p.b = q.b ∧ p.id < q.id)))) := fun k => by cases h1.2 k
    have a2 : ¬ (0 < farD q p n d ∨ (farD q p n d = 0 ∧ (p.b < q.b ∨ (q.b = p.b ∧ q.id < p.id)))) := fun k => by cases h2.2 k
    omega
  · rfl
  · rfl
  · have a1 := h1.1 k1
    have a2 := h2.1 k2
    omega
theorem ids_ne {l : List T3} (h : FldOk l) {i j : Nat} {p q : T3} (hij : i < j) (hp : l[i]? = some p) (hq : l[j]? = some q) : p.1 < q.1 := by
  obtain ⟨h1, rfl⟩ := List.getElem?_eq_some_iff.1 hp
  obtain ⟨h2, rfl⟩ := List.getElem?_eq_some_iff.1 hq
  exact (List.pairwise_iff_getElem.1 h.inc) i j h1 h2 hij
theorem pts_mem {l : List T3} {P : Pt} (h : P ∈ ptsL l) : ∃ p ∈ l, ofP p = P := List.mem_map.1 h
theorem find_in {l : List T3} (h : FldOk l) (h0 : fieldChk (ptsL l) = 0) {p : T3} (hp : p ∈ l) : fieldFind (ptsL l) p.1 = (ofP p, 0) := by
  have hb : hasB (ptsL l) p.1 = true := by
    unfold hasB
    rw [List.any_eq_true]
    exact ⟨ofP p, List.mem_map_of_mem hp, decide_eq_true rfl⟩
  obtain ⟨_, P, h1, h2⟩ := atI_low (fieldChk_zero h0).2.2 hb
  unfold fieldFind
  rw [if_neg (by simpa using h0), if_pos hb, List.getD_eq_getElem?_getD, h1]
  unfold ptsL at h1
  rw [List.getElem?_map] at h1
  cases hq : l[lowB (List.map ofP l) p.1]? with
  | none => rw [hq] at h1; cases h1
  | some q =>
    rw [hq] at h1
    injection h1 with h1
    subst h1
    obtain ⟨i, hi⟩ := List.mem_iff_getElem?.1 hp
    have h2 : q.1 = p.1 := h2
    rcases (by omega : i < lowB (List.map ofP l) p.1 ∨ i = lowB (List.map ofP l) p.1 ∨ lowB (List.map ofP l) p.1 < i) with k | k | k
    · have := ids_ne h k hi hq; omega
    · rw [← k, hi] at hq; injection hq with hq; subst hq; rfl
    · have := ids_ne h k hq hi; omega
end Go.Pel
namespace Go.Proofs.Ytdpnndpbbdhnmaa
open Go Go.Tx Go.Pel
theorem order_at (d : Nat) {l : List T3} (hl : l.length ≤ 64) (h0 : fieldChk (ptsL l) = 0) {n dd : Int} (hn : i64B n = true) (hd : i64B dd = true) (hr : ratioChk n dd = 0) : F_field_Order d ((l, ()), (n, dd, ()), ()) = some (unI ((ordI n dd (ptsL l)).map Pt.id), 0) := by
  rw [F_field_Order_eq _ _ (by unfold field_Order_if; simp only [hn, hd, Bool.and_self, Bool.true_and, decide_eq_true_eq]; rw [ptsL_len]; omega)]
  have e : fieldOrderI (ptsL l) n dd = ((ordI n dd (ptsL l)).map Pt.id, 0) := by unfold fieldOrderI; rw [if_neg (by simpa using h0), if_neg (by simpa using hr)]
  show some (unI (fieldOrderI (ptsL l) n dd).1, (fieldOrderI (ptsL l) n dd).2) = _
  rw [e]
theorem find_at (d : Nat) {l : List T3} (h : FldOk l) (h0 : fieldChk (ptsL l) = 0) {p : T3} (hp : p ∈ l) : F_field_Find d ((l, ()), (p.1, ()), ()) = some (p.1, p.2.1, p.2.2.1, 0) := by
  rw [F_field_Find_eq _ _ rfl]
  show some ((fieldFind (ptsL l) p.1).1.id, (fieldFind (ptsL l) p.1).1.a, (fieldFind (ptsL l) p.1).1.b, (fieldFind (ptsL l) p.1).2) = _
  rw [find_in h h0 hp]
  rfl
end Go.Proofs.Ytdpnndpbbdhnmaa

namespace Go.Pel
open Go Go.Tx
/-- nobody is ahead of a point at a time -/
def Lead (l : List T3) (n dd : Int) (p : T3) : Prop := p ∈ l ∧ ∀ q ∈ l, leads (ofP q) (ofP p) n dd = false
theorem ids_eq {l : List T3} (h : FldOk l) {p q : T3} (hp : p ∈ l) (hq : q ∈ l) (hi : p.1 = q.1) : p = q := by
  obtain ⟨i, hi'⟩ := List.mem_iff_getElem?.1 hp
  obtain ⟨j, hj⟩ := List.mem_iff_getElem?.1 hq
  rcases (by omega : i < j ∨ i = j ∨ j < i) with k | k | k
  · have := ids_ne h k hi' hj; omega
  · subst k; rw [hi'] at hj; exact Option.some.inj hj
  · have := ids_ne h k hj hi'; omega
theorem Lead.ahead {l : List T3} (h : FldOk l) {n dd : Int} {p q : T3} (hp : Lead l n dd p) (hq : q ∈ l) (hne : q.1 ≠ p.1) : leads (ofP p) (ofP q) n dd = true := by
  rw [leads_asym (p := ofP q) (q := ofP p) hne, hp.2 q hq]; rfl
/-- the first of the order -/
def ldT (l : List T3) (n dd : Int) : T3 := toP ((ordI n dd (ptsL l)).headD Pt.zero)
theorem ldT_lead {l : List T3} (hl : l ≠ []) (n dd : Int) : Lead l n dd (ldT l n dd) := by
  have hp := ordI_perm n dd (ptsL l)
  have hpw := ordI_pw n dd (ptsL l)
  unfold Lead ldT
  cases ho : ordI n dd (ptsL l) with
  | nil =>
    rw [ho] at hp
    have := hp.length_eq
    rw [ptsL_len] at this
    exact absurd (List.eq_nil_of_length_eq_zero this.symm) hl
  | cons P r =>
    rw [ho] at hp hpw
    obtain ⟨p, hpl, rfl⟩ := pts_mem (hp.mem_iff.1 (List.mem_cons_self ..))
    show toP (ofP p) ∈ l ∧ ∀ q ∈ l, leads (ofP q) (ofP (toP (ofP p))) n dd = false
    rw [show toP (ofP p) = p from rfl]
    refine ⟨hpl, fun q hq => ?_⟩
    have hq2 : ofP q ∈ ofP p :: r := hp.mem_iff.2 (List.mem_map_of_mem hq)
    rcases List.mem_cons.1 hq2 with e | hr
    · rw [e]; exact leads_self _ _ _
    · exact (List.pairwise_cons.1 hpw).1 _ hr
theorem ldT_id {l : List T3} (hl : l ≠ []) (n dd : Int) : ∃ r, (ordI n dd (ptsL l)).map Pt.id = (ldT l n dd).1 :: r := by
  have hp := ordI_perm n dd (ptsL l)
  unfold ldT
  cases ho : ordI n dd (ptsL l) with
  | nil =>
    rw [ho] at hp
    have := hp.length_eq
    rw [ptsL_len] at this
    exact absurd (List.eq_nil_of_length_eq_zero this.symm) hl
  | cons P r => exact ⟨r.map Pt.id, rfl⟩
theorem mtP_some {p q : T3} (hb : p.2.2.1 ≠ q.2.2.1) : ∃ m, mtP (p, q) = some m := by
  unfold mtP
  simp only [hb, if_false]
  exact ⟨_, rfl⟩
/-- a slower one does not pass -/
theorem stay_slow {p q : T3} (hp : okP p) (hq : okP q) {n dd n' dd' : Int} (hd : 1 ≤ dd) (hd' : 1 ≤ dd') (hle : leQ n dd n' dd') (hb : ¬ p.2.2.1 < q.2.2.1) (h : leads (ofP p) (ofP q) n dd = true) : leads (ofP p) (ofP q) n' dd' = true := by
  by_cases he : p.2.2.1 = q.2.2.1
  · rw [← leads_same he hd hd']; exact h
  · obtain ⟨m, hm⟩ := mtP_some he
    have k1 := leads_mt (x := (p, q)) hp hq hm (n := n) (dd := dd)
    have k2 := leads_mt (x := (p, q)) hp hq hm (n := n') (dd := dd')
    simp only [show q.2.2.1 < p.2.2.1 by omega, if_true] at k1 k2
    rw [h] at k1
    rw [k2]
    cases hg : gtM n' dd' m with
    | false => rfl
    | true =>
      rw [gtM_le hd hd' hle (mtP_eq (x := (p, q)) hp hq hm).2.1 hg] at k1
      cases k1
/-- a faster one passes at the meeting -/
theorem stay_fast {p q : T3} (hp : okP p) (hq : okP q) (hb : p.2.2.1 < q.2.2.1) {m : M4} (hm : mtP (p, q) = some m) (n dd : Int) : leads (ofP p) (ofP q) n dd = gtM n dd m := by
  have k1 := leads_mt (x := (p, q)) hp hq hm (n := n) (dd := dd)
  simp only [show ¬ q.2.2.1 < p.2.2.1 by omega, if_false] at k1
  exact k1
/-- no point is faster -/
def NoFast (l : List T3) (p : T3) : Prop := ∀ q ∈ l, ¬ p.2.2.1 < q.2.2.1
/-- the first meeting with a faster point -/
def Nxt (l : List T3) (p : T3) (n dd : Int) : Prop := (∃ q ∈ l, ∃ m, p.2.2.1 < q.2.2.1 ∧ mtP (p, q) = some m ∧ m.1 = n ∧ m.2.1 = dd) ∧ ∀ q ∈ l, ∀ m, p.2.2.1 < q.2.2.1 → mtP (p, q) = some m → ¬ m.1 * dd < n * m.2.1
theorem Nxt.ok {l : List T3} (h : FldOk l) {p : T3} (hp : p ∈ l) {n dd : Int} (k : Nxt l p n dd) : ratioChk n dd = 0 ∧ n.natAbs ≤ 4194304 ∧ dd ≤ 4194304 := by
  obtain ⟨q, hq, m, hb, hm, rfl, rfl⟩ := k.1
  obtain ⟨_, h1, h2, h3, _⟩ := mtP_eq (x := (p, q)) (h.ok p hp) (h.ok q hq) hm
  exact ⟨h1, h2, h3⟩
theorem Nxt.not {l : List T3} {p : T3} {n dd : Int} (k : Nxt l p n dd) (k' : NoFast l p) : False := by
  obtain ⟨q, hq, m, hb, _⟩ := k.1
  exact k' q hq hb
/-- at the first meeting the old leader is not behind anybody in place -/
theorem nxt_far {l : List T3} (h : FldOk l) {p : T3} {n dd n' dd' : Int} (hd : 1 ≤ dd) (hd' : 1 ≤ dd') (hle : leQ n dd n' dd') (hp : Lead l n dd p) (hmin : ∀ q ∈ l, ∀ m, p.2.2.1 < q.2.2.1 → mtP (p, q) = some m → ¬ m.1 * dd' < n' * m.2.1) {q : T3} (hq : q ∈ l) : q.2.1 * dd' + q.2.2.1 * n' ≤ p.2.1 * dd' + p.2.2.1 * n' := by
  have hpo := h.ok p hp.1
  have hqo := h.ok q hq
  by_cases hi : q.1 = p.1
  · rw [ids_eq h hq hp.1 hi]; exact Int.le_refl _
  · have ha := hp.ahead h hq hi
    by_cases hb : p.2.2.1 < q.2.2.1
    · obtain ⟨m, hm⟩ := mtP_some (p := p) (q := q) (by omega)
      have k := hmin q hq m hb hm
      obtain ⟨_, hmo, _, _, _, _, e⟩ := mtP_eq (x := (p, q)) hpo hqo hm
      have hl := stay_fast hpo hqo hb hm n' dd'
      cases hg : gtM n' dd' m with
      | true =>
        rw [hg] at hl
        rcases (leads_key ..).1 hl with k1 | ⟨k1, k2⟩
        · have : q.2.1 * dd' + q.2.2.1 * n' < p.2.1 * dd' + p.2.2.1 * n' := k1
          omega
        · have : q.2.1 * dd' + q.2.2.1 * n' = p.2.1 * dd' + p.2.2.1 * n' := k1
          omega
      | false =>
        -- the meeting is at the time itself
        have hg' : ¬ n' * m.2.1 < m.1 * dd' := fun k => by rw [(gtM_iff n' dd' m).2 k] at hg; cases hg
        have hD := (ratioChk_zero hmo).1
        have key : farD (ofP p) (ofP q) n' dd' * m.2.1 = (p.2.2.1 - q.2.2.1) * (n' * m.2.1 - m.1 * dd') := by
          show ((p.2.1 - q.2.1) * dd' + (p.2.2.1 - q.2.2.1) * n') * m.2.1 = _
          simp only at e
          rw [Int.add_mul, Int.mul_sub, Int.mul_right_comm (p.2.1 - q.2.1), show (p.2.1 - q.2.1) * m.2.1 = -((p.2.2.1 - q.2.2.1) * m.1) by omega, Int.neg_mul, Int.mul_assoc, Int.mul_assoc]
          omega
        rw [show n' * m.2.1 - m.1 * dd' = 0 by omega, Int.mul_zero] at key
        have hz : farD (ofP p) (ofP q) n' dd' = 0 := by
          rcases Int.mul_eq_zero.1 key with k | k
          · exact k
          · omega
        have : farD (ofP p) (ofP q) n' dd' = (p.2.1 * dd' + p.2.2.1 * n') - (q.2.1 * dd' + q.2.2.1 * n') := by
          show (p.2.1 - q.2.1) * dd' + (p.2.2.1 - q.2.2.1) * n' = _
          rw [Int.sub_mul, Int.sub_mul]; omega
        omega
    · have hl := stay_slow hpo hqo hd hd' hle hb ha
      rcases (leads_key ..).1 hl with k1 | ⟨k1, k2⟩
      · have : q.2.1 * dd' + q.2.2.1 * n' < p.2.1 * dd' + p.2.2.1 * n' := k1
        omega
      · have : q.2.1 * dd' + q.2.2.1 * n' = p.2.1 * dd' + p.2.2.1 * n' := k1
        omega
/-- two points at their meeting -/
theorem mt_place {p q : T3} (hp : okP p) (hq : okP q) {m : M4} (hm : mtP (p, q) = some m) : q.2.1 * m.2.1 + q.2.2.1 * m.1 = p.2.1 * m.2.1 + p.2.2.1 * m.1 := by
  obtain ⟨_, _, _, _, _, _, e⟩ := mtP_eq (x := (p, q)) hp hq hm
  simp only at e
  rw [Int.sub_mul, Int.sub_mul] at e
  omega
/-- the first meeting comes later than the lead -/
theorem nxt_later {l : List T3} (h : FldOk l) {p q : T3} {n dd : Int} (hp : Lead l n dd p) (hq : q ∈ l) (hb : p.2.2.1 < q.2.2.1) {m : M4} (hm : mtP (p, q) = some m) : gtM n dd m = true := by
  have hi : q.1 ≠ p.1 := fun hi => by rw [ids_eq h hq hp.1 hi] at hb; omega
  rw [← stay_fast (h.ok p hp.1) (h.ok q hq) hb hm]
  exact hp.ahead h hq hi
theorem gt_leQ {n dd : Int} {m : M4} (h : gtM n dd m = true) : leQ n dd m.1 m.2.1 := by have := (gtM_iff n dd m).1 h; unfold leQ; omega
/-- the best of those that are met first leads from then on -/
theorem best_lead {l : List T3} (h : FldOk l) {p b : T3} {n dd : Int} (hd : 1 ≤ dd) (hp : Lead l n dd p) (hb : b ∈ l) (hf : p.2.2.1 < b.2.2.1) {m : M4} (hm : mtP (p, b) = some m)
    (hbest : ∀ q ∈ l, ∀ m', p.2.2.1 < q.2.2.1 → mtP (p, q) = some m' → ¬ (m'.1 * m.2.1 < m.1 * m'.2.1 ∨ (m'.1 * m.2.1 = m.1 * m'.2.1 ∧ leads (ofP q) (ofP b) m.1 m.2.1 = true))) : Nxt l p m.1 m.2.1 ∧ Lead l m.1 m.2.1 b := by
  have hpo := h.ok p hp.1
  have hbo := h.ok b hb
  obtain ⟨_, hmo, _⟩ := mtP_eq (x := (p, b)) hpo hbo hm
  have hD := (ratioChk_zero hmo).1
  have hmin : ∀ q ∈ l, ∀ m', p.2.2.1 < q.2.2.1 → mtP (p, q) = some m' → ¬ m'.1 * m.2.1 < m.1 * m'.2.1 := fun q hq m' h1 h2 k => hbest q hq m' h1 h2 (.inl k)
  refine ⟨⟨⟨b, hb, m, hf, hm, rfl, rfl⟩, hmin⟩, hb, fun q hq => ?_⟩
  have hle := gt_leQ (nxt_later h hp hb hf hm)
  have hfar := nxt_far h hd hD hle hp hmin hq
  have hpl := mt_place hpo hbo hm
  cases hl : leads (ofP q) (ofP b) m.1 m.2.1 with
  | false => rfl
  | true =>
    have k0 := (leads_key ..).1 hl
    have k : (b.2.1 * m.2.1 + b.2.2.1 * m.1 < q.2.1 * m.2.1 + q.2.2.1 * m.1) ∨ (b.2.1 * m.2.1 + b.2.2.1 * m.1 = q.2.1 * m.2.1 + q.2.2.1 * m.1 ∧ (b.2.2.1 < q.2.2.1 ∨ (b.2.2.1 = q.2.2.1 ∧ q.1 < b.1))) := k0
    have hfq : p.2.2.1 < q.2.2.1 := by omega
    obtain ⟨m', hm'⟩ := mtP_some (p := p) (q := q) (by omega)
    have hqo := h.ok q hq
    obtain ⟨_, hmo', _, _, _, _, e⟩ := mtP_eq (x := (p, q)) hpo hqo hm'
    -- q is met at the same time
    have h1 := hmin q hq m' hfq hm'
    have h2 := hbest q hq m' hfq hm'
    have hst := stay_fast hpo hqo hfq hm' m.1 m.2.1
    have hg : gtM m.1 m.2.1 m' = false := by
      cases hg : gtM m.1 m.2.1 m' with
      | false => rfl
      | true =>
        rw [hg] at hst
        have k1 := (leads_key ..).1 hst
        have k2 : (q.2.1 * m.2.1 + q.2.2.1 * m.1 < p.2.1 * m.2.1 + p.2.2.1 * m.1) ∨ (q.2.1 * m.2.1 + q.2.2.1 * m.1 = p.2.1 * m.2.1 + p.2.2.1 * m.1 ∧ (q.2.2.1 < p.2.2.1 ∨ (q.2.2.1 = p.2.2.1 ∧ p.1 < q.1))) := k1
        omega
    have hg' : ¬ m.1 * m'.2.1 < m'.1 * m.2.1 := fun k => by rw [(gtM_iff m.1 m.2.1 m').2 k] at hg; cases hg
    exact absurd (.inr ⟨by omega, hl⟩) h2
/-- leads, one after the other: each until the first meeting with a faster point -/
inductive Crest (l : List T3) : T3 → Int → Int → List T3 → Prop
  | last (p : T3) (n dd : Int) : NoFast l p → Crest l p n dd [(n, dd, p.1, ())]
  | next (p : T3) (n dd n' dd' : Int) (p' : T3) (r : List T3) : Nxt l p n' dd' → Lead l n' dd' p' → Crest l p' n' dd' r → Crest l p n dd ((n, dd, p.1, ()) :: r)
theorem Crest.head {l : List T3} {p : T3} {n dd : Int} {a : List T3} (ha : Crest l p n dd a) : ∃ r, a = (n, dd, p.1, ()) :: r := by
  cases ha with
  | last _ _ _ _ => exact ⟨_, rfl⟩
  | next _ _ _ _ _ _ r _ _ _ => exact ⟨r, rfl⟩
/-- the one that leads next is faster -/
theorem nxt_fast {l : List T3} (h : FldOk l) {p p' : T3} {n dd n' dd' : Int} (hd : 1 ≤ dd) (hp : Lead l n dd p) (h1 : Nxt l p n' dd') (h2 : Lead l n' dd' p') : p.2.2.1 < p'.2.2.1 := by
  obtain ⟨q, hq, m, hb, hm, rfl, rfl⟩ := h1.1
  have hpo := h.ok p hp.1
  have hqo := h.ok q hq
  have hmo := (mtP_eq (x := (p, q)) hpo hqo hm).2.1
  have hD := (ratioChk_zero hmo).1
  have hle := gt_leQ (nxt_later h hp hq hb hm)
  have hfar := nxt_far h hd hD hle hp h1.2 h2.1
  have hpl := mt_place hpo hqo hm
  have hl := h2.2 q hq
  have k : ¬ ((p'.2.1 * m.2.1 + p'.2.2.1 * m.1 < q.2.1 * m.2.1 + q.2.2.1 * m.1) ∨ (p'.2.1 * m.2.1 + p'.2.2.1 * m.1 = q.2.1 * m.2.1 + q.2.2.1 * m.1 ∧ (p'.2.2.1 < q.2.2.1 ∨ (p'.2.2.1 = q.2.2.1 ∧ q.1 < p'.1)))) := leads_f hl
  omega
/-- how many points are faster -/
def fastN (l : List T3) (p : T3) : Nat := l.countP fun q => decide (p.2.2.1 < q.2.2.1)
theorem fastN_lt {l : List T3} {p p' : T3} (hp : p' ∈ l) (hb : p.2.2.1 < p'.2.2.1) : fastN l p' < fastN l p := by
  unfold fastN
  induction l with
  | nil => cases hp
  | cons x xs ih =>
    rw [List.countP_cons, List.countP_cons]
    have hmono : xs.countP (fun q => decide (p'.2.2.1 < q.2.2.1)) ≤ xs.countP (fun q => decide (p.2.2.1 < q.2.2.1)) := List.countP_mono_left fun q _ hq => by
      rw [decide_eq_true_eq] at hq ⊢; omega
    rcases List.mem_cons.1 hp with rfl | hp
    · rw [if_neg (by rw [decide_eq_true_eq]; omega), if_pos (by rw [decide_eq_true_eq]; omega)]; omega
    · have := ih hp
      by_cases h1 : p'.2.2.1 < x.2.2.1
      · rw [if_pos (by rw [decide_eq_true_eq]; omega), if_pos (by rw [decide_eq_true_eq]; omega)]; omega
      · rw [if_neg (by rw [decide_eq_true_eq]; omega)]
        split <;> omega
theorem fastN_le (l : List T3) (p : T3) : fastN l p ≤ l.length := List.countP_le_length
theorem Crest.len {l : List T3} (h : FldOk l) {p : T3} {n dd : Int} {a : List T3} (ha : Crest l p n dd a) (hr : ratioChk n dd = 0) (hp : Lead l n dd p) : a.length ≤ fastN l p + 1 := by
  induction ha with
  | last p n dd hn => simp
  | next p n dd n' dd' p' r h1 h2 _ ih =>
    have := ih (h1.ok h hp.1).1 h2
    have := fastN_lt h2.1 (nxt_fast h (ratioChk_zero hr).1 hp h1 h2)
    rw [List.length_cons]; omega
end Go.Pel

namespace Go.Pel
open Go Go.Tx
def okL (x : T3) : Bool := decide (ratioChk x.1 x.2.1 = 0) && decide (0 ≤ x.2.2.1) && decide (x.2.2.1 ≤ 65535)
theorem okL_iff {x : T3} : okL x = true ↔ ratioChk x.1 x.2.1 = 0 ∧ 0 ≤ x.2.2.1 ∧ x.2.2.1 ≤ 65535 := by
  unfold okL
  simp only [Bool.and_eq_true, decide_eq_true_eq, and_assoc]
def nxB (x y : T3) : Bool := decide (cmpQ x.1 x.2.1 y.1 y.2.1 < 0) && decide (x.2.2.1 ≠ y.2.2.1)
theorem nxB_iff {x y : T3} : nxB x y = true ↔ x.1 * y.2.1 < y.1 * x.2.1 ∧ x.2.2.1 ≠ y.2.2.1 := by
  unfold nxB cmpQ cmpZ
  simp only [Bool.and_eq_true, decide_eq_true_eq]
  repeat' split
  all_goals omega
/-- leads in order behind another one -/
def chkR : Option T3 → List T3 → Bool
  | _, [] => true
  | o, x :: r => okL x && (match o with | none => true | some y => nxB y x) && chkR (some x) r
/-- the check of a list of leads -/
def chkL (a : List T3) : Int := if a.length < 1 ∨ 300 < a.length then 8 else if chkR none a = true then 0 else 8
theorem chkL_zero {a : List T3} (h : chkL a = 0) : 1 ≤ a.length ∧ a.length ≤ 300 ∧ chkR none a = true := by
  unfold chkL at h
  split at h
  · cases h
  · split at h
    · next k => exact ⟨by omega, by omega, k⟩
    · cases h
theorem chkR_pw : ∀ {o : Option T3} {a : List T3}, chkR o a = true → (∀ x ∈ a, okL x = true) ∧ (a.Pairwise fun x y => x.1 * y.2.1 < y.1 * x.2.1) ∧ (∀ y, o = some y → okL y = true → ∀ x ∈ a, y.1 * x.2.1 < x.1 * y.2.1)
  | o, [], _ => ⟨fun x h => (by cases h), List.Pairwise.nil, fun y _ _ x h => (by cases h)⟩
  | o, x :: r, h => by
    unfold chkR at h
    simp only [Bool.and_eq_true] at h
    obtain ⟨⟨h1, h2⟩, h3⟩ := h
    obtain ⟨k1, k2, k3⟩ := chkR_pw h3
    refine ⟨fun y hy => ?_, List.pairwise_cons.2 ⟨fun y hy => k3 x rfl h1 y hy, k2⟩, fun y hy hyo z hz => ?_⟩
    · rcases List.mem_cons.1 hy with rfl | hy
      · exact h1
      · exact k1 y hy
    · subst hy
      have hyx := (nxB_iff.1 h2).1
      rcases List.mem_cons.1 hz with rfl | hz
      · exact hyx
      · have o1 := (ratioChk_zero (okL_iff.1 hyo).1).1
        have o2 := (ratioChk_zero (okL_iff.1 h1).1).1
        have o3 := (ratioChk_zero (okL_iff.1 (k1 z hz)).1).1
        have := k3 x rfl h1 z hz
        exact q_lt o1 o2 o3 hyx (by omega)
/-- ids of a valid field's points -/
theorem id_bd {l : List T3} (h : FldOk l) {p : T3} (hp : p ∈ l) : 0 ≤ p.1 ∧ p.1 ≤ 65535 := by
  have := pt_bd' (h.ok p hp); omega
theorem crest_chkR {l : List T3} (h : FldOk l) {p : T3} {n dd : Int} {a : List T3} (ha : Crest l p n dd a) (hr : ratioChk n dd = 0) (hp : Lead l n dd p) (o : Option T3) (ho : ∀ y, o = some y → nxB y (n, dd, p.1, ()) = true) : chkR o a = true := by
  induction ha generalizing o with
  | last p n dd hn =>
    unfold chkR chkR
    simp only [Bool.and_eq_true, Bool.and_true]
    refine ⟨okL_iff.2 ⟨hr, id_bd h hp.1⟩, ?_⟩
    cases o with
    | none => rfl
    | some y => exact ho y rfl
  | next p n dd n' dd' p' r h1 h2 _ ih =>
    unfold chkR
    simp only [Bool.and_eq_true]
    refine ⟨⟨okL_iff.2 ⟨hr, id_bd h hp.1⟩, ?_⟩, ih (h1.ok h hp.1).1 h2 _ fun y hy => ?_⟩
    · cases o with
      | none => rfl
      | some y => exact ho y rfl
    · injection hy with hy
      subst hy
      have hf := nxt_fast h (ratioChk_zero hr).1 hp h1 h2
      rw [nxB_iff]
      refine ⟨?_, fun e => ?_⟩
      · obtain ⟨q, hq, m, hb, hm, rfl, rfl⟩ := h1.1
        exact (gtM_iff n dd m).1 (nxt_later h hp hq hb hm)
      · rw [ids_eq h hp.1 h2.1 e] at hf; omega
theorem crest_chk {l : List T3} (h : FldOk l) {p : T3} {n dd : Int} {a : List T3} (ha : Crest l p n dd a) (hr : ratioChk n dd = 0) (hp : Lead l n dd p) : chkL a = 0 := by
  have h1 := ha.len h hr hp
  have h2 := fastN_le l p
  have h3 := h.len
  obtain ⟨r, rfl⟩ := ha.head
  unfold chkL
  rw [if_neg (by rw [List.length_cons] at h1 ⊢; omega), if_pos (crest_chkR h ha hr hp none fun y hy => by cases hy)]
/-- the points of a crest: each leads at its time, speeds increase, nobody is faster than the last one -/
theorem crest_pts {l : List T3} (h : FldOk l) {p : T3} {n dd : Int} {a : List T3} (ha : Crest l p n dd a) (hr : ratioChk n dd = 0) (hp : Lead l n dd p) : ∃ ps : List T3, ps.length = a.length ∧ ps.head? = some p ∧ (∀ (i : Nat) (x q : T3), a[i]? = some x → ps[i]? = some q → x.2.2.1 = q.1 ∧ ratioChk x.1 x.2.1 = 0 ∧ leQ n dd x.1 x.2.1 ∧ Lead l x.1 x.2.1 q) ∧ (∀ (i : Nat) (q q' : T3), ps[i]? = some q → ps[i + 1]? = some q' → q.2.2.1 < q'.2.2.1) ∧ (∀ q : T3, ps[ps.length - 1]? = some q → NoFast l q) := by
  induction ha with
  | last p n dd hn =>
    refine ⟨[p], rfl, rfl, fun i x q hx hq => ?_, fun i q q' hq hq' => ?_, fun q hq => ?_⟩
    · cases i with
      | zero =>
        simp only [List.getElem?_cons_zero, Option.some.injEq] at hx hq
        subst hx hq
        exact ⟨rfl, hr, Int.le_refl _, hp⟩
      | succ i => simp at hx
    · simp at hq'
    · simp at hq; subst hq; exact hn
  | next p n dd n' dd' p' r h1 h2 h3 ih =>
    have hr' := (h1.ok h hp.1).1
    obtain ⟨ps, k1, k2, k3, k4, k5⟩ := ih hr' h2
    have hle : leQ n dd n' dd' := by
      obtain ⟨q, hq, m, hb, hm, rfl, rfl⟩ := h1.1
      exact gt_leQ (nxt_later h hp hq hb hm)
    refine ⟨p :: ps, by rw [List.length_cons, List.length_cons, k1], rfl, fun i x q hx hq => ?_, fun i q q' hq hq' => ?_, fun q hq => ?_⟩
    · cases i with
      | zero =>
        simp only [List.getElem?_cons_zero, Option.some.injEq] at hx hq
        subst hx hq
        exact ⟨rfl, hr, Int.le_refl _, hp⟩
      | succ i =>
        rw [List.getElem?_cons_succ] at hx hq
        obtain ⟨g1, g2, g3, g4⟩ := k3 i x q hx hq
        exact ⟨g1, g2, leQ_trans (ratioChk_zero hr).1 (ratioChk_zero hr').1 (ratioChk_zero g2).1 hle g3, g4⟩
    · cases i with
      | zero =>
        simp only [List.getElem?_cons_zero, Option.some.injEq, List.getElem?_cons_succ] at hq hq'
        subst hq
        rw [List.head?_eq_getElem?, hq'] at k2
        injection k2 with k2
        subst k2
        exact nxt_fast h (ratioChk_zero hr).1 hp h1 h2
      | succ i =>
        rw [List.getElem?_cons_succ] at hq hq'
        exact k4 i q q' hq hq'
    · have hl : 0 < ps.length := by
        cases ps with
        | nil => cases k2
        | cons _ _ => simp
      rw [List.length_cons, show ps.length + 1 - 1 = (ps.length - 1) + 1 by omega, List.getElem?_cons_succ] at hq
      exact k5 q hq
end Go.Pel

namespace Go.Pel
open Go Go.Tx
/-- the best one of the first i points: the first that is met, and the one that is ahead then -/
def BestI (l : List T3) (p : T3) (i : Nat) (b : T3) (a1 a2 : Int) : Prop :=
  (a2 = 0 ∧ ∀ k q, k < i → l[k]? = some q → ¬ p.2.2.1 < q.2.2.1) ∨
  (∃ m : M4, m.1 = a1 ∧ m.2.1 = a2 ∧ okM m ∧ m.1.natAbs ≤ 4194304 ∧ m.2.1 ≤ 4194304 ∧ (∃ j, j < i ∧ l[j]? = some b) ∧ p.2.2.1 < b.2.2.1 ∧ mtP (p, b) = some m ∧ ∀ k q m', k < i → l[k]? = some q → p.2.2.1 < q.2.2.1 → mtP (p, q) = some m' → ¬ (m'.1 * m.2.1 < m.1 * m'.2.1 ∨ (m'.1 * m.2.1 = m.1 * m'.2.1 ∧ leads (ofP q) (ofP b) m.1 m.2.1 = true)))
theorem BestI.skip {l : List T3} {p : T3} {i : Nat} {b : T3} {a1 a2 : Int} (h : BestI l p i b a1 a2) {q : T3} (hq : l[i]? = some q) (hs : ¬ p.2.2.1 < q.2.2.1) : BestI l p (i + 1) b a1 a2 := by
  rcases h with ⟨h1, h2⟩ | ⟨m, h1, h2, h3, h4, h5, ⟨j, h6, h7⟩, h8, h9, h10⟩
  · refine .inl ⟨h1, fun k x hk hx => ?_⟩
    rcases (by omega : k < i ∨ k = i) with k' | rfl
    · exact h2 k x k' hx
    · rw [hq] at hx; injection hx with hx; subst hx; exact hs
  · refine .inr ⟨m, h1, h2, h3, h4, h5, ⟨j, by omega, h7⟩, h8, h9, fun k x m' hk hx hf => ?_⟩
    rcases (by omega : k < i ∨ k = i) with k' | rfl
    · exact h10 k x m' k' hx hf
    · rw [hq] at hx; injection hx with hx; subst hx; exact absurd hf hs
theorem BestI.first {l : List T3} (h : FldOk l) {p : T3} (hp : p ∈ l) {i : Nat} {b : T3} {a1 : Int} (hB : BestI l p i b a1 0) {q : T3} (hq : l[i]? = some q) (hf : p.2.2.1 < q.2.2.1) {m : M4} (hm : mtP (p, q) = some m) : BestI l p (i + 1) q m.1 m.2.1 := by
  obtain ⟨_, g1, g2, g3, _⟩ := mtP_eq (x := (p, q)) (h.ok p hp) (h.ok q (List.mem_of_getElem? hq)) hm
  rcases hB with ⟨_, h2⟩ | ⟨m', _, h2, h3, _⟩
  · refine .inr ⟨m, rfl, rfl, g1, g2, g3, ⟨i, by omega, hq⟩, hf, hm, fun k x m' hk hx hfx hm' => ?_⟩
    rcases (by omega : k < i ∨ k = i) with k' | rfl
    · exact absurd hfx (h2 k x k' hx)
    · rw [hq] at hx; injection hx with hx; subst hx
      rw [hm] at hm'; injection hm' with hm'; subst hm'
      rw [leads_self]
      rintro (k | ⟨_, k⟩)
      · omega
      · cases k
  · have := (ratioChk_zero h3).1; omega
theorem BestI.take {l : List T3} (h : FldOk l) {p : T3} (hp : p ∈ l) {i : Nat} {b : T3} {a1 a2 : Int} (ha : 0 < a2) (hB : BestI l p i b a1 a2) {q : T3} (hq : l[i]? = some q) (hf : p.2.2.1 < q.2.2.1) {m : M4} (hm : mtP (p, q) = some m) (hR : m.1 * a2 < a1 * m.2.1 ∨ (m.1 * a2 = a1 * m.2.1 ∧ leads (ofP q) (ofP b) m.1 m.2.1 = true)) : BestI l p (i + 1) q m.1 m.2.1 := by
  have hqo := h.ok q (List.mem_of_getElem? hq)
  have hpo := h.ok p hp
  obtain ⟨_, g1, g2, g3, _⟩ := mtP_eq (x := (p, q)) hpo hqo hm
  rcases hB with ⟨h1, _⟩ | ⟨mb, rfl, rfl, h3, _, _, ⟨j, h6, h7⟩, h8, h9, h10⟩
  · omega
  · have oD := (ratioChk_zero g1).1
    have oB := (ratioChk_zero h3).1
    refine .inr ⟨m, rfl, rfl, g1, g2, g3, ⟨i, by omega, hq⟩, hf, hm, fun k x m' hk hx hfx hm' => ?_⟩
    rcases (by omega : k < i ∨ k = i) with k' | rfl
    · have hxo := h.ok x (List.mem_of_getElem? hx)
      have gx := (mtP_eq (x := (p, x)) hpo hxo hm').2.1
      have oX := (ratioChk_zero gx).1
      have hno := h10 k x m' k' hx hfx hm'
      rintro (k1 | ⟨k1, k2⟩)
      · -- x is met before q, which is not behind b
        have : m'.1 * mb.2.1 < mb.1 * m'.2.1 := q_lt oX oD oB k1 (by omega)
        exact hno (.inl this)
      · rcases hR with hR | ⟨hR, hR2⟩
        · have : m'.1 * mb.2.1 < mb.1 * m'.2.1 := q_lt' oX oD oB (by omega) hR
          exact hno (.inl this)
        · -- all three at the same time
          obtain ⟨e1, e2⟩ := q_eq g1 h3 hR
          obtain ⟨e3, e4⟩ := q_eq gx g1 k1
          refine hno (.inr ⟨by rw [e3, e4, e1, e2], ?_⟩)
          rw [← e1, ← e2, leads_key]
          have k3 := (leads_key ..).1 hR2
          have k4 := (leads_key ..).1 k2
          omega
    · rw [hq] at hx; injection hx with hx; subst hx
      rw [hm] at hm'; injection hm' with hm'; subst hm'
      rw [leads_self]
      rintro (k | ⟨_, k⟩)
      · omega
      · cases k
theorem BestI.keep {l : List T3} (h : FldOk l) {p : T3} (hp : p ∈ l) {i : Nat} {b : T3} {a1 a2 : Int} (ha : 0 < a2) (hB : BestI l p i b a1 a2) {q : T3} (hq : l[i]? = some q) (hf : p.2.2.1 < q.2.2.1) {m : M4} (hm : mtP (p, q) = some m) (hR : ¬ (m.1 * a2 < a1 * m.2.1 ∨ (m.1 * a2 = a1 * m.2.1 ∧ leads (ofP q) (ofP b) m.1 m.2.1 = true))) : BestI l p (i + 1) b a1 a2 := by
  have g1 := (mtP_eq (x := (p, q)) (h.ok p hp) (h.ok q (List.mem_of_getElem? hq)) hm).2.1
  rcases hB with ⟨h1, _⟩ | ⟨mb, rfl, rfl, h3, h4, h5, ⟨j, h6, h7⟩, h8, h9, h10⟩
  · omega
  · refine .inr ⟨mb, rfl, rfl, h3, h4, h5, ⟨j, by omega, h7⟩, h8, h9, fun k x m' hk hx hfx hm' => ?_⟩
    rcases (by omega : k < i ∨ k = i) with k' | rfl
    · exact h10 k x m' k' hx hfx hm'
    · rw [hq] at hx; injection hx with hx; subst hx
      rw [hm] at hm'; injection hm' with hm'; subst hm'
      rintro (k1 | ⟨k1, k2⟩)
      · exact hR (.inl k1)
      · obtain ⟨e1, e2⟩ := q_eq g1 h3 k1
        exact hR (.inr ⟨k1, by rw [e1, e2]; exact k2⟩)
theorem BestI.zero (l : List T3) (p b : T3) (a1 : Int) : BestI l p 0 b a1 0 := .inl ⟨rfl, fun k q hk => by omega⟩
theorem BestI.none {l : List T3} {p b : T3} {a1 : Int} (h : BestI l p l.length b a1 0) : NoFast l p := by
  rcases h with ⟨_, h2⟩ | ⟨m, _, h2, h3, _⟩
  · intro q hq
    obtain ⟨k, hk⟩ := List.mem_iff_getElem?.1 hq
    exact h2 k q (List.getElem?_eq_some_iff.1 hk).1 hk
  · have := (ratioChk_zero h3).1; omega
theorem BestI.some {l : List T3} (hl : FldOk l) {p b : T3} {n dd a1 a2 : Int} (hd : 1 ≤ dd) (hp : Lead l n dd p) (ha : a2 ≠ 0) (h : BestI l p l.length b a1 a2) : Nxt l p a1 a2 ∧ Lead l a1 a2 b := by
  rcases h with ⟨h1, _⟩ | ⟨m, rfl, rfl, _, _, _, ⟨j, _, h7⟩, h8, h9, h10⟩
  · exact absurd h1 ha
  · refine best_lead hl hd hp (List.mem_of_getElem? h7) h8 h9 fun q hq m' hf hm' => ?_
    obtain ⟨k, hk⟩ := List.mem_iff_getElem?.1 hq
    exact h10 k q m' (List.getElem?_eq_some_iff.1 hk).1 hk hf hm'
end Go.Pel
namespace Go.Proofs.Ytdpnndpbbdhnmaa
open Go Go.Tx Go.Pel
theorem ccmp_eq (d : Nat) (n1 d1 n2 d2 : Int) (h1 : i64B n1 = true) (h2 : i64B d1 = true) (h3 : i64B n2 = true) (h4 : i64B d2 = true) : F_crest_compare d ((n1, d1, ()), (n2, d2, ()), ()) = some (cmpR n1 d1 n2 d2).1 := by
  have e := rCmp_eq d n1 d1 n2 d2 h1 h2 h3 h4
  simp only [F_crest_compare, crest_compare_K, crest_compare_r0, crest_compare_r1, crest_compare_r2, Dt.eval, e]
theorem fails_eq (d : Nat) {p q : T3} (hp : okP p) (hq : okP q) {n dd : Int} (hn : i64B n = true) (hd : i64B dd = true) (hr : ratioChk n dd = 0) (hl : leads (ofP q) (ofP p) n dd = false) : F_course_Fails d ((p.1, p.2.1, p.2.2.1, ()), (q.1, q.2.1, q.2.2.1, ()), (n, dd, ()), ()) =
    some (if p.1 = q.1 then (0, 0, false, 2) else if p.2.2.1 < q.2.2.1 then ((mk (p.2.1 - q.2.1) (q.2.2.1 - p.2.2.1)).1, (mk (p.2.1 - q.2.1) (q.2.2.1 - p.2.2.1)).2.1, true, 0) else (0, 0, false, 0)) := by
  have e1 : F_course_two d ((p.1, p.2.1, p.2.2.1, ()), (q.1, q.2.1, q.2.2.1, ()), (n, dd, ()), ()) = some (if p.1 = q.1 then 2 else 0) := by
    rw [F_course_two_eq _ _ (by unfold course_two_if; simp only [hn, hd, Bool.and_self])]
    refine congrArg some ?_
    show twoChk (ofP p) (ofP q) n dd = _
    unfold twoChk
    rw [if_pos ⟨hp, hq, hr⟩]
    rfl
  have e2 : F_course_compare d ((q.1, q.2.1, q.2.2.1, ()), (p.1, p.2.1, p.2.2.1, ()), (n, dd, ()), ()) = some (cmpC (ofP q) (ofP p) n dd) :=
    F_course_compare_eq _ _ (cmpInB_of (cmpIn_of (p := ofP q) (q := ofP p) hq hp hr (i64B_iff hn) (i64B_iff hd)))
  have e3 : decide (cmpC (ofP q) (ofP p) n dd > 0) = false := by rw [← hl]; exact cmpC_leads ..
  simp only [F_course_Fails, course_Fails_K, course_Fails_r0, course_Fails_r1, course_Fails_r2, course_Fails_r3, course_Fails_r4, course_Fails_r5, course_Fails_r6, course_Fails_r7, course_Fails_r8, course_Fails_r9, Dt.eval, e1]
  by_cases hi : p.1 = q.1
  · simp only [hi, if_true, show ((2 : Int) != 0) = true from rfl, cond_true]
  · simp only [hi, if_false, show ((0 : Int) != 0) = false from rfl, cond_false, e2, e3, Dt.eval]
    by_cases hb : p.2.2.1 < q.2.2.1
    · have e4 := meet_eq d hp hq hi
      rw [if_neg (show ¬ p.2.2.1 = q.2.2.1 by omega)] at e4
      simp only [show decide (q.2.2.1 ≤ p.2.2.1) = false by rw [decide_eq_false_iff_not]; omega, cond_false, e4, Dt.eval, hb, if_true, show ((0 : Int) == 0) = true from rfl]
    · simp only [show decide (q.2.2.1 ≤ p.2.2.1) = true by rw [decide_eq_true_eq]; omega, cond_true, hb, if_false]
set_option maxHeartbeats 4000000 in
theorem of_in (d : Nat) {l : List T3} (h : FldOk l) {p : T3} {n dd : Int} (hn : i64B n = true) (hd : i64B dd = true) (hr : ratioChk n dd = 0) (hp : Lead l n dd p) (self1 : (List Diii × Int × Int × Int × Int × Int × List Diii) → Option crest_Of_R) (out : List T3) : ∀ (f i : Nat) (b : T3) (a1 a2 : Int), l.length - i < f → i ≤ l.length → BestI l p i b a1 a2 →
    ∃ b' a1' a2', BestI l p l.length b' a1' a2' ∧ iter (crest_Of_L2 d self1) f (l, (l.length : Int), (i : Int), l, n, dd, p.1, p.2.1, p.2.2.1, out, b.1, b.2.1, b.2.2.1, a1, a2) =
      (if a2' = 0 then some (out, 0) else bif apB out.length 1 then self1 (l, a1', a2', b'.1, b'.2.1, b'.2.2.1, out ++ [(a1', a2', b'.1, ())]) else none)
  | 0, i, b, a1, a2, hf, _, _ => by omega
  | f + 1, i, b, a1, a2, hf, hi, hB => by
    have hl := h.len
    have hpo := h.ok p hp.1
    have ih := fun b a1 a2 => of_in d h hn hd hr hp self1 out f (i + 1) b a1 a2
    rw [iter]
    revert ih
    generalize iter (crest_Of_L2 d self1) f = self
    intro ih
    unfold crest_Of_L2
    by_cases hlt : i < l.length
    · obtain ⟨q, hq⟩ : ∃ q, l[i]? = some q := ⟨_, List.getElem?_eq_getElem hlt⟩
      have hqm := List.mem_of_getElem? hq
      have hqo := h.ok q hqm
      have e1 := fails_eq d hpo hqo hn hd hr (hp.2 q hqm)
      have wi := wrap_succ (show i < 1000000 by omega)
      simp only [crest_Of_r11, Dt.eval, dec_lt hlt, cond_true]
      simp only [crest_Of_r12, Dt.eval, inB_of hlt, cond_true, elt_some hq]
      by_cases hid : p.1 = q.1
      · have hs : ¬ p.2.2.1 < q.2.2.1 := by rw [ids_eq h hp.1 hqm hid]; omega
        rw [if_pos hid] at e1
        simp only [crest_Of_r13, crest_Of_K, e1, Dt.eval]
        simp only [crest_Of_r14, show ((2 : Int) != 0) = true from rfl, cond_true, Dt.eval]
        simp only [crest_Of_J3, crest_Of_r24, Dt.eval, wi]
        exact ih b a1 a2 (by omega) (by omega) (hB.skip hq hs)
      · rw [if_neg hid] at e1
        by_cases hb : p.2.2.1 < q.2.2.1
        · obtain ⟨m, hm⟩ := mtP_some (p := p) (q := q) (by omega)
          have hm0 := hm
          unfold mtP at hm0
          simp only [show ¬ p.2.2.1 = q.2.2.1 by omega, if_false, Option.some.injEq] at hm0
          have m1 : (mk (p.2.1 - q.2.1) (q.2.2.1 - p.2.2.1)).1 = m.1 := by rw [← hm0]
          have m2 : (mk (p.2.1 - q.2.1) (q.2.2.1 - p.2.2.1)).2.1 = m.2.1 := by rw [← hm0]
          rw [if_pos hb, m1, m2] at e1
          obtain ⟨_, gm, gn, gd, _⟩ := mtP_eq (x := (p, q)) hpo hqo hm
          have oM := (ratioChk_zero gm).1
          simp only [crest_Of_r13, crest_Of_K, e1, Dt.eval]
          simp only [crest_Of_r14, show ((0 : Int) != 0) = false from rfl, cond_false, Dt.eval, Bool.not_true]
          simp only [crest_Of_r15, Dt.eval]
          by_cases ha : a2 = 0
          · subst ha
            simp only [crest_Of_r16, Dt.eval, show decide ((0 : Int) > 0) = false from rfl, cond_false]
            simp only [crest_Of_J4, crest_Of_r18, Dt.eval, show ((-1 : Int) == 0) = false from rfl, cond_false]
            simp only [crest_Of_J5, crest_Of_r22, Dt.eval, show decide ((-1 : Int) < 0) = true from rfl, cond_true]
            simp only [crest_Of_r23, Dt.eval]
            simp only [crest_Of_J3, crest_Of_r24, Dt.eval, wi]
            exact ih q m.1 m.2.1 (by omega) (by omega) (hB.first h hp.1 hq hb hm)
          · have hpos : 0 < a2 ∧ ratioChk a1 a2 = 0 ∧ i64B a1 = true ∧ i64B a2 = true ∧ (∃ j, j < i ∧ l[j]? = some b) := by
              rcases hB with ⟨k, _⟩ | ⟨mb, rfl, rfl, h3, h4, h5, h6, _⟩
              · exact absurd k ha
              · have := (ratioChk_zero h3).1
                exact ⟨by omega, h3, i64B_of (by omega), i64B_of (by omega), h6⟩
            obtain ⟨ha0, hra, hi1, hi2, j, hj, hjb⟩ := hpos
            have hbm := List.mem_of_getElem? hjb
            have e2 : F_crest_compare d ((m.1, m.2.1, ()), (a1, a2, ()), ()) = some (cmpZ (m.1 * a2) (a1 * m.2.1)) := by
              rw [ccmp_eq d _ _ _ _ (i64B_of (show m.1.natAbs ≤ _ by omega)) (i64B_of (show m.2.1.natAbs ≤ _ by omega)) hi1 hi2]; unfold cmpR; rw [if_pos ⟨gm, hra⟩]; rfl
            have hqb : q.1 ≠ b.1 := by have := ids_ne h hj hjb hq; omega
            have e3 := mAhead_eq d hqo (h.ok b hbm) hqb (i64B_of (show m.1.natAbs ≤ _ by omega)) (i64B_of (show m.2.1.natAbs ≤ _ by omega)) gm
            simp only [crest_Of_r16, Dt.eval, show decide (a2 > 0) = true from decide_eq_true ha0, cond_true]
            simp only [crest_Of_r17, crest_Of_K, e2, Dt.eval]
            rcases ltZ (m.1 * a2) (a1 * m.2.1) with ⟨k1, k2⟩ | ⟨k1, k2⟩ | ⟨k1, k2⟩
            · simp only [crest_Of_J4, crest_Of_r18, Dt.eval, k1, show ((-1 : Int) == 0) = false from rfl, cond_false]
              simp only [crest_Of_J5, crest_Of_r22, Dt.eval, show decide ((-1 : Int) < 0) = true from rfl, cond_true]
              simp only [crest_Of_r23, Dt.eval]
              simp only [crest_Of_J3, crest_Of_r24, Dt.eval, wi]
              exact ih q m.1 m.2.1 (by omega) (by omega) (hB.take h hp.1 ha0 hq hb hm (.inl k2))
            · simp only [crest_Of_J4, crest_Of_r18, Dt.eval, k1, show ((0 : Int) == 0) = true from rfl, cond_true]
              simp only [crest_Of_r19, crest_Of_K, e3, Dt.eval]
              cases hah : leads (ofP q) (ofP b) m.1 m.2.1 with
              | true =>
                simp only [crest_Of_r20, Dt.eval, cond_true]
                simp only [crest_Of_r21, Dt.eval]
                simp only [crest_Of_J5, crest_Of_r22, Dt.eval, show decide ((-1 : Int) < 0) = true from rfl, cond_true]
                simp only [crest_Of_r23, Dt.eval]
                simp only [crest_Of_J3, crest_Of_r24, Dt.eval, wi]
                exact ih q m.1 m.2.1 (by omega) (by omega) (hB.take h hp.1 ha0 hq hb hm (.inr ⟨k2, hah⟩))
              | false =>
                simp only [crest_Of_r20, Dt.eval, cond_false]
                simp only [crest_Of_J5, crest_Of_r22, Dt.eval, show decide ((0 : Int) < 0) = false from rfl, cond_false]
                simp only [crest_Of_J3, crest_Of_r24, Dt.eval, wi]
                exact ih b a1 a2 (by omega) (by omega) (hB.keep h hp.1 ha0 hq hb hm (by rw [hah]; rintro (k | ⟨_, k⟩); omega; cases k))
            · simp only [crest_Of_J4, crest_Of_r18, Dt.eval, k1, show ((1 : Int) == 0) = false from rfl, cond_false]
              simp only [crest_Of_J5, crest_Of_r22, Dt.eval, show decide ((1 : Int) < 0) = false from rfl, cond_false]
              simp only [crest_Of_J3, crest_Of_r24, Dt.eval, wi]
              exact ih b a1 a2 (by omega) (by omega) (hB.keep h hp.1 ha0 hq hb hm (by rintro (k | ⟨k, _⟩) <;> omega))
        · rw [if_neg hb] at e1
          simp only [crest_Of_r13, crest_Of_K, e1, Dt.eval]
          simp only [crest_Of_r14, show ((0 : Int) != 0) = false from rfl, cond_false, Dt.eval, Bool.not_false, cond_true]
          simp only [crest_Of_J3, crest_Of_r24, Dt.eval, wi]
          exact ih b a1 a2 (by omega) (by omega) (hB.skip hq hb)
    · have hkl : i = l.length := by omega
      subst hkl
      refine ⟨b, a1, a2, hB, ?_⟩
      simp only [crest_Of_r11, Dt.eval, dec_nlt hlt, cond_false]
      simp only [crest_Of_r25, Dt.eval]
      by_cases ha : a2 = 0
      · simp only [ha, beq_self_eq_true, cond_true, if_true, crest_Of_r26, Dt.eval]
      · have hb : (a2 == 0) = false := by rw [beq_eq_false_iff_ne]; exact ha
        simp only [hb, cond_false, ha, if_false]
        simp only [crest_Of_r27, Dt.eval]
        simp only [crest_Of_r28, Dt.eval, List.length_cons, List.length_nil, Nat.zero_add]
theorem of_out (d : Nat) (hf5 : 5000 ≤ d) {l : List T3} (h : FldOk l) : ∀ (f : Nat) (p : T3) (n dd : Int) (out : List T3), fastN l p < f → Lead l n dd p → ratioChk n dd = 0 → i64B n = true → i64B dd = true → out.length + fastN l p ≤ 200 →
    ∃ r, Crest l p n dd ((n, dd, p.1, ()) :: r) ∧ iter (crest_Of_L1 d) f (l, n, dd, p.1, p.2.1, p.2.2.1, out) = some (out ++ r, 0)
  | 0, p, n, dd, out, hf, _, _, _, _, _ => by omega
  | f + 1, p, n, dd, out, hf, hp, hr, hn, hd, ho => by
    have hl := h.len
    have ih := fun p n dd out => of_out d hf5 h f p n dd out
    rw [iter]
    revert ih
    generalize iter (crest_Of_L1 d) f = self
    intro ih
    unfold crest_Of_L1
    simp only [crest_Of_r8, crest_Of_r9, crest_Of_r10, Dt.eval]
    obtain ⟨b, a1, a2, hB, e⟩ := of_in d h hn hd hr hp self out d 0 (0, 0, 0, ()) 0 0 (by omega) (by omega) (BestI.zero ..)
    have e' : iter (crest_Of_L2 d self) d (l, (l.length : Int), (0 : Int), l, n, dd, p.1, p.2.1, p.2.2.1, out, (0 : Int), (0 : Int), (0 : Int), (0 : Int), (0 : Int)) = _ := e
    rw [e']
    by_cases ha : a2 = 0
    · subst ha
      refine ⟨[], .last p n dd hB.none, ?_⟩
      rw [if_pos rfl, List.append_nil]
    · obtain ⟨h1, h2⟩ := hB.some h (ratioChk_zero hr).1 hp ha
      obtain ⟨g1, g2, g3⟩ := h1.ok h hp.1
      have hD := (ratioChk_zero g1).1
      have hlt := fastN_lt h2.1 (nxt_fast h (ratioChk_zero hr).1 hp h1 h2)
      have hap : apB out.length 1 = true := by unfold apB; rw [Nat.ble_eq]; omega
      obtain ⟨r, k1, k2⟩ := ih b a1 a2 (out ++ [(a1, a2, b.1, ())]) (by omega) h2 g1 (i64B_of (by omega)) (i64B_of (by omega)) (by rw [List.length_append]; simp; omega)
      refine ⟨(a1, a2, b.1, ()) :: r, .next p n dd a1 a2 b _ h1 h2 k1, ?_⟩
      rw [if_neg ha, hap, cond_true, k2, List.append_assoc]
      rfl
/-- crest.Of of a valid field with points -/
theorem of_eq (d : Nat) (hf : 5000 ≤ d) {l : List T3} (hl : l ≠ []) {n dd : Int} (hn : i64B n = true) (hd : i64B dd = true) (hc : chk1 l n dd = 0) : ∃ a, Crest l (ldT l n dd) n dd a ∧ F_crest_Of d ((l, ()), (n, dd, ()), ()) = some (a, 0) := by
  have h0 : fieldChk (ptsL l) = 0 := by
    unfold chk1 at hc
    by_cases h0 : fieldChk (ptsL l) = 0
    · exact h0
    · rw [if_pos h0] at hc; exact absurd hc h0
  have hr : ratioChk n dd = 0 := by
    unfold chk1 at hc
    rw [if_neg (by simpa using h0)] at hc; exact hc
  have h := fldOk_of h0
  have hl64 := h.len
  have hL := ldT_lead hl n dd
  obtain ⟨r0, hr0⟩ := ldT_id hl n dd
  have e1 := order_at d hl64 h0 hn hd hr
  rw [hr0] at e1
  have e2 := find_at d h h0 hL.1
  have hN := fastN_le l (ldT l n dd)
  obtain ⟨r, k1, k2⟩ := of_out d hf h d (ldT l n dd) n dd [(n, dd, (ldT l n dd).1, ())] (by omega) hL hr hn hd (by simp; omega)
  refine ⟨_, k1, ?_⟩
  have hlen : ((unI ((ldT l n dd).1 :: r0)).length : Int) ≠ 0 := by rw [unI_len, List.length_cons]; omega
  have c1 : (((unI ((ldT l n dd).1 :: r0)).length : Int) == 0) = false := by rw [beq_eq_false_iff_ne]; exact hlen
  have c2 : inB 0 (unI ((ldT l n dd).1 :: r0)).length = true := inB_of (k := 0) (by rw [unI_len]; simp)
  have c3 : elt zi (unI ((ldT l n dd).1 :: r0)) (0 : Int).toNat = ((ldT l n dd).1, ()) := elt_some (k := 0) rfl
  simp only [F_crest_Of, crest_Of_K, crest_Of_r0, crest_Of_r1, crest_Of_r2, crest_Of_r3, crest_Of_r4, crest_Of_r5, crest_Of_r6, crest_Of_r7, Dt.eval, e1, show ((0 : Int) != 0) = false from rfl, cond_false, c1, c2, c3, cond_true, e2]
  exact k2
end Go.Proofs.Ytdpnndpbbdhnmaa

namespace Go.Pel
open Go Go.Tx
/-- numbers that fit -/
def bdL (a : List T3) : Prop := ∀ x ∈ a, i64B x.1 = true ∧ i64B x.2.1 = true
theorem crest_bd {l : List T3} (h : FldOk l) {p : T3} {n dd : Int} {a : List T3} (ha : Crest l p n dd a) (hn : i64B n = true) (hd : i64B dd = true) (hp : p ∈ l) : bdL a := by
  induction ha with
  | last p n dd _ =>
    intro x hx
    rw [List.mem_singleton] at hx
    subst hx
    exact ⟨hn, hd⟩
  | next p n dd n' dd' p' r h1 h2 _ ih =>
    obtain ⟨g1, g2, g3⟩ := h1.ok h hp
    have o := (ratioChk_zero g1).1
    have hb : ∀ {z : Int}, z.natAbs ≤ 4194304 → i64B z = true := fun {z} hz => by
      unfold i64B; simp only [Bool.and_eq_true, decide_eq_true_eq]; omega
    intro x hx
    rcases List.mem_cons.1 hx with rfl | hx
    · exact ⟨hn, hd⟩
    · exact ih (hb g2) (hb (by omega)) h2.1 x hx
theorem cmpQ_tri (a b c d : Int) : (cmpQ a b c d = -1 ∧ a * d < c * b) ∨ (cmpQ a b c d = 0 ∧ a * d = c * b) ∨ (cmpQ a b c d = 1 ∧ c * b < a * d) := by
  unfold cmpQ cmpZ
  repeat' split
  all_goals omega
end Go.Pel
namespace Go.Proofs.Ytdpnndpbbdhnmaa
open Go Go.Tx Go.Pel
theorem pChk_eq (d : Nat) {n dd : Int} (hn : i64B n = true) (hd : i64B dd = true) : F_ratio_Check d ((n, dd, ()), ()) = some (ratioChk n dd) := F_ratio_Check_eq _ _ (by unfold ratio_Check_if; simp only [hn, hd, Bool.and_self])
theorem ratioChk_08 (n d : Int) : ratioChk n d = 0 ∨ ratioChk n d = 8 := by
  unfold ratioChk
  split
  · exact .inl rfl
  · exact .inr rfl
end Go.Proofs.Ytdpnndpbbdhnmaa

namespace Go.Pel
open Go Go.Tx
theorem countP_lt {α : Type} {P : α → Bool} {l : List α} {x : α} (hx : x ∈ l) (h : P x = false) : l.countP P < l.length := by
  induction l with
  | nil => cases hx
  | cons y ys ih =>
    rw [List.countP_cons, List.length_cons]
    have := List.countP_le_length (p := P) (l := ys)
    rcases List.mem_cons.1 hx with rfl | hx
    · rw [if_neg (by rw [h]; decide)]; omega
    · have := ih hx
      split <;> omega
theorem crest_le {l : List T3} (h : FldOk l) {p : T3} {n dd : Int} {a : List T3} (ha : Crest l p n dd a) (hr : ratioChk n dd = 0) (hp : Lead l n dd p) : a.length ≤ l.length := by
  have h1 := ha.len h hr hp
  have h2 : fastN l p < l.length := countP_lt hp.1 (by rw [decide_eq_false_iff_not]; omega)
  omega
end Go.Pel
namespace Go.Proofs.Ytdpnndpbbdhnmaa
open Go Go.Tx Go.Pel
theorem great3_eq (d : Nat) (l : List T3) : F_ref03_Great d ((l, ()), ()) = some (great l.length) := by
  rw [F_ref03_Great_eq _ _ rfl]
  show some (great (ptsL l).length) = _
  rw [ptsL_len]
end Go.Proofs.Ytdpnndpbbdhnmaa

namespace Go
open Go.ChangeShapes Go.WideShapes Go.ChangeAt Go.RowKit
section
variable {H : Type} {enc : TypeId × Value → H} {P : Program} {w : World} {base : Nat} {spare : Nat → Bool} {held : Bool}
/-- a field of a struct -/
theorem field_at {t : TypeId} {fs : Array Field} {fuel : Nat} {cs : List Value} {x : DataW H × List MemPlace} (hs : P.underlying t = some (.struct fs)) (h : DataW.trod enc P w base spare held fuel t cs = some x)
    {i : Nat} {f : Field} (hf : fs[i]? = some f) {off n : Nat} {ft : TypeId} (ho : f.offset = off) (ht : f.type = ft) (hn : P.cellsOf ft = n) : ∃ m y, DataW.trod enc P w base spare held m ft ((cs.drop off).take n) = some y := by
  obtain ⟨xs, m, _, _, _, hlen, hg⟩ := DataW.trod_struct hs h
  have h1 := hg i f hf
  subst ho ht hn
  have hi : i < xs.length := by rw [hlen]; exact (Array.getElem?_eq_some_iff.1 hf).1
  exact ⟨m, xs[i], by rw [h1, List.getElem?_eq_getElem hi]⟩
theorem int_cell {t : TypeId} {k : IntKind} {fuel : Nat} {cs : List Value} {x : DataW H × List MemPlace} (ht : P.underlying t = some (.int k)) (h : DataW.trod enc P w base spare held fuel t cs = some x) : ∃ n, cs = [.int k n] ∧ (Lit.int k n).wf = true := by
  obtain ⟨n, h1, _, h2⟩ := DataW.trod_int ht h; exact ⟨n, h1, h2⟩
theorem wf_i64 {n : Int} (h : (Lit.int .i64 n).wf = true) : -9223372036854775808 ≤ n ∧ n ≤ 9223372036854775807 := bounds_i64 h
end
end Go
namespace Go.Proofs.Ytdpnndpbbdhnmaa
open Go.ChangeShapes Go.WideShapes Go.ChangeAt Go.RowKit
theorem ownKnob_ : ownKnob Try.prog.godebug = none := by kernel_rfl
theorem laidOut_ : laidOutB Try.prog = true := by kernel_rfl
end Go.Proofs.Ytdpnndpbbdhnmaa

namespace Go
open Go.ChangeShapes Go.WideShapes Go.ChangeAt Go.RowKit Go.Deep
theorem choose_below {α : Type} {p : Nat → α → Prop} : ∀ n : Nat, (∀ i, i < n → ∃ v, p i v) → ∃ l : List α, l.length = n ∧ ∀ (i : Nat) (x : α), l[i]? = some x → p i x
  | 0, _ => ⟨[], rfl, fun i x h => by simp at h⟩
  | n + 1, h => by
    obtain ⟨l, hl, hp⟩ := choose_below n fun i hi => h i (by omega)
    obtain ⟨v, hv⟩ := h n (by omega)
    refine ⟨l ++ [v], by simp [hl], fun i x hx => ?_⟩
    rcases Nat.lt_or_ge i n with hi | hi
    · rw [List.getElem?_append_left (by omega)] at hx; exact hp i x hx
    · rw [List.getElem?_append_right (by omega)] at hx
      have : i = n := by
        have := (List.getElem?_eq_some_iff.1 hx).1
        simp at this; omega
      subst this
      simp [hl] at hx
      subst hx; exact hv
theorem flat_get {α : Type} {cells : α → List Value} {k : Nat} (hk : ∀ a, (cells a).length = k) (h0 : 0 < k) : ∀ (l : List α) (j : Nat) (u : Value), (l.flatMap cells)[j]? = some u → ∃ x, l[j / k]? = some x ∧ (cells x)[j % k]? = some u
  | [], j, u, h => by simp at h
  | x :: l, j, u, h => by
    rw [List.flatMap_cons] at h
    rcases Nat.lt_or_ge j k with hj | hj
    · rw [List.getElem?_append_left (by rw [hk]; exact hj)] at h
      rw [Nat.div_eq_of_lt hj, Nat.mod_eq_of_lt hj]
      exact ⟨x, rfl, h⟩
    · rw [List.getElem?_append_right (by rw [hk]; exact hj), hk] at h
      obtain ⟨y, hy, hu⟩ := flat_get hk h0 l (j - k) u h
      obtain ⟨m, rfl⟩ : ∃ m, j = m + k := ⟨j - k, by omega⟩
      rw [Nat.add_sub_cancel] at hy hu
      rw [Nat.add_div_right _ h0, Nat.add_mod_right]
      exact ⟨y, by simpa using hy, hu⟩
theorem flat_len {α : Type} {cells : α → List Value} {k : Nat} (hk : ∀ a, (cells a).length = k) (l : List α) : (l.flatMap cells).length = l.length * k := by
  induction l with
  | nil => simp
  | cons x l ih => rw [List.flatMap_cons, List.length_append, ih, hk, List.length_cons, Nat.add_mul]; omega
section
variable {H : Type} {enc : TypeId × Value → H} {P : Program} {w : World} {base : Nat} {held : Bool}
theorem arg_nil {t e : TypeId} {fuel : Nat} {A : Option Addr} {n c : Nat} {x : DataW H × List MemPlace} (ht : P.underlying t = some (.slice e))
    (h : DataW.trod enc P w base (fun _ => true) held fuel t [Value.slice A n c] = some x) : A = none → c = 0 := by
  rcases open_slice ht h with ⟨hcs, _⟩ | ⟨a, len, cap, m, q, D, Pl, hcs, _⟩
  · simp only [List.cons.injEq, and_true] at hcs
    injection hcs with h1 h2 h3
    intro _; exact h3
  · simp only [List.cons.injEq, and_true] at hcs
    injection hcs with h1 h2 h3
    subst h1; intro h; cases h
/-- A slice that came in: the list of its elements. -/
theorem arg_slice {α : Type} (cells : α → List Value) (ok : α → Prop) {t e : TypeId} {k fuel : Nat} {A : Option Addr} {n c : Nat} {x : DataW H × List MemPlace}
    (ht : P.underlying t = some (.slice e)) (hC : P.cellsOf e = k) (h0 : 0 < k) (hk : ∀ a, (cells a).length = k)
    (hR : ∀ (m : Nat) (l : List Value) (y : DataW H × List MemPlace), DataW.trod enc P w base (fun _ => true) held m e l = some y → l.length = k → ∃ a, l = cells a ∧ ok a)
    (h : DataW.trod enc P w base (fun _ => true) held fuel t [Value.slice A n c] = some x) :
    ∃ l : List α, l.length = n ∧ Sl w k A l.length c (l.flatMap cells) ∧ (∀ a ∈ l, ok a) ∧ (A = none → c = 0) ∧ c ≤ maxLen := by
  rcases open_slice ht h with ⟨hcs, _⟩ | ⟨a, len, cap, m, q, D, Pl, hcs, _, hl, hmx, hm, _, hi⟩
  · simp only [List.cons.injEq, and_true] at hcs
    injection hcs with h1 h2 h3
    subst h1 h2 h3
    exact ⟨[], rfl, Sl.nil_ _ _ _ _, (fun _ h => by cases h), (fun _ => rfl), Nat.zero_le _⟩
  · simp only [List.cons.injEq, and_true] at hcs
    injection hcs with h1 h2 h3
    subst h1 h2 h3
    simp only [if_true] at hm
    subst hm
    obtain ⟨l, hll, hp⟩ := choose_below (α := α) (p := fun i v => (∀ j u, (cells v)[j]? = some u → w.cell? (a.add (i * k + j)) = some u) ∧ ok v) n (fun i hin => by
      obtain ⟨cs', hc, ht'⟩ := hi i (by omega)
      rw [hC] at hc
      obtain ⟨_, hcl, hat⟩ := World.cells?_some hc
      obtain ⟨v, rfl, hv⟩ := hR _ _ _ ht' hcl
      refine ⟨v, fun j u hu => ?_, hv⟩
      have hj : j < k := by rw [← hk v]; exact (List.getElem?_eq_some_iff.1 hu).1
      rw [← Go.Deep.add_add, hat j hj, hu])
    refine ⟨l, hll, ⟨by omega, by rw [flat_len hk, hll], fun hn => ?_⟩, fun v hv => ?_, (fun h => by cases h), hmx⟩
    · obtain ⟨v0, hv0⟩ : ∃ v, l[0]? = some v := ⟨_, List.getElem?_eq_getElem (by omega)⟩
      obtain ⟨u0, hu0⟩ : ∃ u, (cells v0)[0]? = some u := ⟨_, List.getElem?_eq_getElem (by rw [hk]; exact h0)⟩
      have hc0 := (hp 0 v0 hv0).1 0 u0 hu0
      obtain ⟨b, o, spot⟩ := a
      have hspot : spot = none := by simpa [Addr.add] using World.cell?_spot hc0
      subst hspot
      refine ⟨b, o, rfl, ?_, fun j u hu => ?_⟩
      · have hb := World.block_lt_of_cell? w _ hc0
        simpa [Addr.add] using hb
      · obtain ⟨v, hv, huv⟩ := flat_get hk h0 l j u hu
        have h1 := (hp _ v hv).1 _ u huv
        have e0 : j / k * k + j % k = j := by rw [Nat.mul_comm]; exact Nat.div_add_mod j k
        rw [e0] at h1
        have e1 : (⟨b, o, none⟩ : Addr).add j = ⟨b, o + j, none⟩ := by
          unfold Addr.add; split
          · rename_i h0; rw [h0]; rfl
          · rfl
        rw [e1] at h1; exact h1
    · obtain ⟨i, hi'⟩ := List.getElem?_of_mem hv
      exact (hp i v hi').2
end
end Go

namespace Go.Proofs.Ytdpnndpbbdhnmaa
open Go.ChangeShapes Go.WideShapes Go.ChangeAt Go.RowKit Go.Pel Go.Deep
theorem list1 {α : Type} (l : List α) (h : l.length = 1) : ∃ a, l = [a] := by
  match l, h with
  | [a], _ => exact ⟨a, rfl⟩
theorem list2 {α : Type} (l : List α) (h : l.length = 2) : ∃ a b, l = [a, b] := by
  match l, h with
  | [a, b], _ => exact ⟨a, b, rfl⟩
theorem list3 {α : Type} (l : List α) (h : l.length = 3) : ∃ a b c, l = [a, b, c] := by
  match l, h with
  | [a, b, c], _ => exact ⟨a, b, c, rfl⟩
section
variable {H : Type} {enc : TypeId × Value → H} {w : World} {base : Nat} {spare : Nat → Bool} {held : Bool}
theorem cellsF_int : Try.prog.cellsOf 3 = 1 := by kernel_rfl
theorem cellsF_i64 : Try.prog.cellsOf 2 = 1 := by kernel_rfl
theorem cellsF_point : Try.prog.cellsOf 55 = 3 := by kernel_rfl
theorem cellsF_field : Try.prog.cellsOf 24 = 1 := by kernel_rfl
theorem cellsF_points : Try.prog.cellsOf 22 = 1 := by kernel_rfl
theorem point_cells {fuel : Nat} {l : List Value} {x : DataW H × List MemPlace} (h : DataW.trod enc Try.prog w base spare held fuel 55 l = some x) (hl : l.length = 3) :
    ∃ p : Pt, l = [.int .i64 p.id, .int .i64 p.a, .int .i64 p.b] ∧ p.Fits := by
  obtain ⟨c0, c1, c2, rfl⟩ := list3 l hl
  obtain ⟨m4, y4, h4⟩ := field_at Try.underlying55 h (i := 0) rfl rfl rfl cellsF_int
  obtain ⟨m5, y5, h5⟩ := field_at Try.underlying55 h (i := 1) rfl rfl rfl cellsF_i64
  obtain ⟨m6, y6, h6⟩ := field_at Try.underlying55 h (i := 2) rfl rfl rfl cellsF_i64
  obtain ⟨i, e4, w4⟩ := int_cell Try.underlying3 h4
  obtain ⟨a, e5, w5⟩ := int_cell Try.underlying2 h5
  obtain ⟨b, e6, w6⟩ := int_cell Try.underlying2 h6
  simp at e4 e5 e6
  subst e4 e5 e6
  exact ⟨⟨i, a, b⟩, rfl, ⟨wf_i64 w4, wf_i64 w5, wf_i64 w6⟩⟩
theorem point_read (fuel : Nat) (l : List Value) (x : DataW H × List MemPlace) (h : DataW.trod enc Try.prog w base spare held fuel 55 l = some x) (hl : l.length = 3) : ∃ p : Pt, l = p.cells ∧ p.Fits := point_cells h hl
theorem field_cells {fuel : Nat} {l : List Value} {x : DataW H × List MemPlace} (h : DataW.trod enc Try.prog w base (fun _ => true) held fuel 24 l = some x) (hl : l.length = 1) :
    ∃ (A : Option Addr) (c : Nat) (m : List Pt), l = [.slice A m.length c] ∧ Sl w 3 A m.length c (vp m) ∧ (A = none → c = 0) ∧ ∀ p ∈ m, p.Fits := by
  obtain ⟨c0, rfl⟩ := list1 l hl
  obtain ⟨m0, y0, h0⟩ := field_at Try.underlying24 h (i := 0) rfl rfl rfl cellsF_points
  have h0' : DataW.trod enc Try.prog w base (fun _ => true) held m0 22 [c0] = some y0 := by simpa using h0
  obtain ⟨A, n, c, rfl⟩ : ∃ A n c, c0 = Value.slice A n c := by
    rcases open_slice Try.underlying22 h0' with ⟨hcs, _⟩ | ⟨a, len, cap, m, q, D, Pl, hcs, _⟩
    · simp only [List.cons.injEq, and_true] at hcs; exact ⟨_, _, _, hcs⟩
    · simp only [List.cons.injEq, and_true] at hcs; exact ⟨_, _, _, hcs⟩
  have hn := arg_nil Try.underlying22 h0'
  obtain ⟨pts, rfl, hs, hok, _, _⟩ := arg_slice Pt.cells Pt.Fits Try.underlying22 cellsF_point (by decide) (fun _ => rfl) point_read h0'
  exact ⟨A, c, pts, rfl, hs, hn, hok⟩
theorem cellsF_ratio : Try.prog.cellsOf 26 = 2 := by kernel_rfl
theorem ratio_cells {fuel : Nat} {l : List Value} {x : DataW H × List MemPlace} (h : DataW.trod enc Try.prog w base spare held fuel 26 l = some x) (hl : l.length = 2) :
    ∃ n d : Int, l = [.int .i64 n, .int .i64 d] ∧ (-9223372036854775808 ≤ n ∧ n ≤ 9223372036854775807) ∧ (-9223372036854775808 ≤ d ∧ d ≤ 9223372036854775807) := by
  obtain ⟨c0, c1, rfl⟩ := list2 l hl
  obtain ⟨m4, y4, h4⟩ := field_at Try.underlying26 h (i := 0) rfl rfl rfl cellsF_i64
  obtain ⟨m5, y5, h5⟩ := field_at Try.underlying26 h (i := 1) rfl rfl rfl cellsF_i64
  obtain ⟨n, e4, w4⟩ := int_cell Try.underlying2 h4
  obtain ⟨d, e5, w5⟩ := int_cell Try.underlying2 h5
  simp at e4 e5
  subst e4 e5
  exact ⟨n, d, rfl, wf_i64 w4, wf_i64 w5⟩
end
end Go.Proofs.Ytdpnndpbbdhnmaa
