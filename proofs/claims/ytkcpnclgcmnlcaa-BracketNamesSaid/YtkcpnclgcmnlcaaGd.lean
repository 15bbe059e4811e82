/- Walks of the references; the orders agree; examples. -/
import Derived.Test.YtkcpnclgcmnlcaaGc
set_option linter.unusedSimpArgs false
set_option linter.unusedVariables false
namespace Go.Proofs.Ytkcpnclgcmnlcaa
open Go.RowKit Go.Pel
theorem wu (x : Int) (y : Nat) (h : x = y) (hy : y < 18446744073709551616) : IntKind.u64.wrap x = (y : Int) := by rw [IntKind.wrap_u64, h]; omega
set_option maxRecDepth 10000 in
set_option maxHeartbeats 2000000 in
theorem product_any (a b : Nat) (w : World) (ha : a < 18446744073709551616) (hb : b < 18446744073709551616) :
    Calls Try.prog 152 #[.int .u64 a, .int .u64 b] w fun e w' => e = .returned (.agg #[.bool false, .int .u64 ((a * b / 18446744073709551616 : Nat) : Int), .int .u64 ((a * b % 18446744073709551616 : Nat) : Int)]) ∧ ∃ x, w' = ext w x := by
  obtain ⟨ah, hah⟩ : ∃ x : Nat, a / 4294967296 = x := ⟨_, rfl⟩
  obtain ⟨al, hal⟩ : ∃ x : Nat, a % 4294967296 = x := ⟨_, rfl⟩
  obtain ⟨bh, hbh⟩ : ∃ x : Nat, b / 4294967296 = x := ⟨_, rfl⟩
  obtain ⟨bl, hbl⟩ : ∃ x : Nat, b % 4294967296 = x := ⟨_, rfl⟩
  obtain ⟨m0, hm0⟩ : ∃ x : Nat, al * bl = x := ⟨_, rfl⟩
  obtain ⟨x1, hx1⟩ : ∃ x : Nat, ah * bl = x := ⟨_, rfl⟩
  obtain ⟨y1, hy1⟩ : ∃ x : Nat, al * bh = x := ⟨_, rfl⟩
  obtain ⟨z1, hz1⟩ : ∃ x : Nat, ah * bh = x := ⟨_, rfl⟩
  have b0 : m0 ≤ 4294967295 * 4294967295 := by rw [← hm0]; exact Nat.mul_le_mul (by omega) (by omega)
  have b1 : x1 ≤ 4294967295 * 4294967295 := by rw [← hx1]; exact Nat.mul_le_mul (by omega) (by omega)
  have b2 : y1 ≤ 4294967295 * 4294967295 := by rw [← hy1]; exact Nat.mul_le_mul (by omega) (by omega)
  have b3 : z1 ≤ 4294967295 * 4294967295 := by rw [← hz1]; exact Nat.mul_le_mul (by omega) (by omega)
  have hab : a * b = z1 * 18446744073709551616 + (x1 + y1) * 4294967296 + m0 := by
    have e1 : a = ah * 4294967296 + al := by omega
    have e2 : b = bh * 4294967296 + bl := by omega
    rw [e1, e2, Nat.add_mul, Nat.mul_add, Nat.mul_add]
    have f1 : ah * 4294967296 * (bh * 4294967296) = z1 * 18446744073709551616 := by rw [← hz1, Nat.mul_mul_mul_comm]
    have f2 : ah * 4294967296 * bl = x1 * 4294967296 := by rw [← hx1, Nat.mul_right_comm]
    have f3 : al * (bh * 4294967296) = y1 * 4294967296 := by rw [← hy1, Nat.mul_assoc]
    rw [f1, f2, f3, hm0, Nat.add_mul]; omega
  obtain ⟨m0h, hm0h⟩ : ∃ x : Nat, m0 / 4294967296 = x := ⟨_, rfl⟩
  obtain ⟨lr, hlr⟩ : ∃ x : Nat, m0 % 4294967296 = x := ⟨_, rfl⟩
  obtain ⟨m, hm⟩ : ∃ x : Nat, x1 + m0h = x := ⟨_, rfl⟩
  obtain ⟨mr, hmr⟩ : ∃ x : Nat, m % 4294967296 = x := ⟨_, rfl⟩
  obtain ⟨mq, hmq⟩ : ∃ x : Nat, m / 4294967296 = x := ⟨_, rfl⟩
  obtain ⟨n, hn⟩ : ∃ x : Nat, y1 + mr = x := ⟨_, rfl⟩
  obtain ⟨nr, hnr⟩ : ∃ x : Nat, n % 4294967296 = x := ⟨_, rfl⟩
  obtain ⟨nq, hnq⟩ : ∃ x : Nat, n / 4294967296 = x := ⟨_, rfl⟩
  obtain ⟨z2, hz2⟩ : ∃ x : Nat, z1 + mq = x := ⟨_, rfl⟩
  obtain ⟨nn, hnn⟩ : ∃ x : Nat, nr * 4294967296 = x := ⟨_, rfl⟩
  have HF : Hid (((a * b / 18446744073709551616 : Nat) : Int) = ((z2 + nq : Nat) : Int) ∧ ((a * b % 18446744073709551616 : Nat) : Int) = ((nn + lr : Nat) : Int)) := Lib.hid (by rw [hab]; omega)
  obtain ⟨hi, hhi⟩ : ∃ x : Nat, z2 + nq = x := ⟨_, rfl⟩
  obtain ⟨lo, hlo⟩ : ∃ x : Nat, nn + lr = x := ⟨_, rfl⟩
  rw [hhi, hlo] at HF
  have e1 : IntKind.u64.wrap ((al : Int) * bl) = (m0 : Int) := wu _ _ (by rw [← hm0]; simp) (by omega)
  have e3 : IntKind.u64.wrap ((ah : Int) * bl) = (x1 : Int) := wu _ _ (by rw [← hx1]; simp) (by omega)
  have e6 : IntKind.u64.wrap ((al : Int) * bh) = (y1 : Int) := wu _ _ (by rw [← hy1]; simp) (by omega)
  have e9 : IntKind.u64.wrap ((ah : Int) * bh) = (z1 : Int) := wu _ _ (by rw [← hz1]; simp) (by omega)
  have e4 : IntKind.u64.wrap ((x1 : Int) + m0h) = (m : Int) := wu _ _ (by omega) (by omega)
  have e7 : IntKind.u64.wrap ((y1 : Int) + mr) = (n : Int) := wu _ _ (by omega) (by omega)
  have e10 : IntKind.u64.wrap ((z1 : Int) + mq) = (z2 : Int) := wu _ _ (by omega) (by omega)
  have e12 : IntKind.u64.wrap ((z2 : Int) + nq) = (hi : Int) := wu _ _ (by omega) (by omega)
  have e14 : IntKind.u64.wrap ((nr : Int) * 4294967296) = (nn : Int) := wu _ _ (by omega) (by omega)
  have e16 : IntKind.u64.wrap ((nn : Int) + lr) = (lo : Int) := wu _ _ (by omega) (by omega)
  have d1 : (a : Int) / 4294967296 = (ah : Int) := by omega
  have d2 : (a : Int) % 4294967296 = (al : Int) := by omega
  have d3 : (b : Int) / 4294967296 = (bh : Int) := by omega
  have d4 : (b : Int) % 4294967296 = (bl : Int) := by omega
  have d5 : (m0 : Int) / 4294967296 = (m0h : Int) := by omega
  have d6 : (m0 : Int) % 4294967296 = (lr : Int) := by omega
  have d7 : (m : Int) / 4294967296 = (mq : Int) := by omega
  have d8 : (m : Int) % 4294967296 = (mr : Int) := by omega
  have d9 : (n : Int) / 4294967296 = (nq : Int) := by omega
  have d10 : (n : Int) % 4294967296 = (nr : Int) := by omega
  have g0 : m0 < 18446744073709551616 := by omega
  have g1 : m < 18446744073709551616 := by omega
  have g2 : n < 18446744073709551616 := by omega
  clear hah hal hbh hbl hm0 hx1 hy1 hz1 b0 b1 b2 b3 hab hm0h hlr hm hmr hmq hn hnr hnq hz2 hnn hhi hlo
  go_enter Try.func152, Try.ntmps152
  go_wp2
  exact bodyPost_ret (v := .agg #[.bool false, .int .u64 (hi : Int), .int .u64 (lo : Int)]) (by simp [results, Try.results152, go_sem]) rfl ⟨by rw [HF.out.1, HF.out.2], ext_of (by (try simp only [ext_ext]); repeat (first | exact Bel.refl _ | assumption | refine bel_and ?_ _ | refine bel_drews ?_ _ | refine Bel.ext ?_ _ | refine Bel.alloc ?_ _ | refine Bel.drewN ?_ _))⟩
/-- the number that a sign and an absolute value of 128 bits are -/
def bigV (neg : Bool) (hi lo : Nat) : Int := if neg then -((hi : Int) * 18446744073709551616 + lo) else (hi : Int) * 18446744073709551616 + lo
set_option maxRecDepth 10000 in
set_option maxHeartbeats 2000000 in
theorem refProduct_any (a b : Int) (w : World) (ha : -9223372036854775808 ≤ a ∧ a ≤ 9223372036854775807) (hb : -9223372036854775808 ≤ b ∧ b ≤ 9223372036854775807) :
    Calls Try.prog 144 #[.int .i64 a, .int .i64 b] w fun e w' => e = .returned (.agg #[.bool (decide (a * b < 0)), .int .u64 (((a * b).natAbs / 18446744073709551616 : Nat) : Int), .int .u64 (((a * b).natAbs % 18446744073709551616 : Nat) : Int)]) ∧ ∃ x, w' = ext w x := by
  have q1 := Lib.hid (fun W => size_any a W ha)
  have q2 := Lib.hid (fun W => size_any b W hb)
  have q3 := Lib.hid (fun W => product_any a.natAbs b.natAbs W (by omega) (by omega))
  rw [← Int.natAbs_mul] at q3
  obtain ⟨H, hH⟩ : ∃ H : Nat, (a * b).natAbs / 18446744073709551616 = H := ⟨_, rfl⟩
  obtain ⟨L, hL⟩ : ∃ H : Nat, (a * b).natAbs % 18446744073709551616 = H := ⟨_, rfl⟩
  rw [hH, hL] at q3 ⊢
  have hneg : decide (a * b < 0) = (!(decide (a < 0) == decide (b < 0)) && (!(a == 0) && !(b == 0))) := by
    rcases Int.lt_trichotomy a 0 with h1 | h1 | h1 <;> rcases Int.lt_trichotomy b 0 with h2 | h2 | h2
    · have := Int.mul_pos_of_neg_of_neg h1 h2; simp [h1, h2, show ¬ a * b < 0 by omega]
    · subst h2; simp
    · have := Int.mul_neg_of_neg_of_pos h1 h2; simp [h1, this, show ¬ b < 0 by omega, show ¬ a = 0 by omega, show ¬ b = 0 by omega]
    · subst h1; simp
    · subst h1; simp
    · subst h1; simp
    · have := Int.mul_neg_of_pos_of_neg h1 h2; simp [h2, this, show ¬ a < 0 by omega, show ¬ a = 0 by omega, show ¬ b = 0 by omega]
    · subst h2; simp
    · have := Int.mul_pos h1 h2; simp [show ¬ a * b < 0 by omega, show ¬ a < 0 by omega, show ¬ b < 0 by omega]
  cases hk : (decide (a < 0) == decide (b < 0)) with
  | true =>
    have HN : Hid (decide (a * b < 0) = false) := Lib.hid (by rw [hneg, hk]; rfl)
    clear hneg hH hL ha hb
    go_enter Try.func144, Try.ntmps144
    go_wp2_with (first | (go_at_call 112; (with_reducible refine (q1.out _).mono ?_); rintro e _ ⟨rfl, nx, rfl⟩) | (go_at_call 112; (with_reducible refine (q2.out _).mono ?_); rintro e _ ⟨rfl, nx, rfl⟩) | (go_at_call 152; (with_reducible refine (q3.out _).mono ?_); rintro e _ ⟨rfl, nx, rfl⟩))
    exact bodyPost_ret (v := .agg #[.bool false, .int .u64 (H : Int), .int .u64 (L : Int)]) (by simp [results, Try.results144, go_sem]) rfl ⟨by rw [HN.out], ext_of (by (try simp only [ext_ext]); repeat (first | exact Bel.refl _ | assumption | refine bel_and ?_ _ | refine bel_drews ?_ _ | refine Bel.ext ?_ _ | refine Bel.alloc ?_ _ | refine Bel.drewN ?_ _))⟩
  | false =>
    cases h1 : (a == 0) with
    | true =>
      have HN : Hid (decide (a * b < 0) = false) := Lib.hid (by rw [hneg, hk, h1]; rfl)
      have h1' : (a != 0) = false := by rw [bne, h1]; rfl
      clear hneg hH hL ha hb
      go_enter Try.func144, Try.ntmps144
      go_wp2_with (first | (go_at_call 112; (with_reducible refine (q1.out _).mono ?_); rintro e _ ⟨rfl, nx, rfl⟩) | (go_at_call 112; (with_reducible refine (q2.out _).mono ?_); rintro e _ ⟨rfl, nx, rfl⟩) | (go_at_call 152; (with_reducible refine (q3.out _).mono ?_); rintro e _ ⟨rfl, nx, rfl⟩))
      exact bodyPost_ret (v := .agg #[.bool false, .int .u64 (H : Int), .int .u64 (L : Int)]) (by simp [results, Try.results144, go_sem]) rfl ⟨by rw [HN.out], ext_of (by (try simp only [ext_ext]); repeat (first | exact Bel.refl _ | assumption | refine bel_and ?_ _ | refine bel_drews ?_ _ | refine Bel.ext ?_ _ | refine Bel.alloc ?_ _ | refine Bel.drewN ?_ _))⟩
    | false =>
      have h1' : (a != 0) = true := by rw [bne, h1]; rfl
      cases h2 : (b == 0) with
      | true =>
        have HN : Hid (decide (a * b < 0) = false) := Lib.hid (by rw [hneg, hk, h1, h2]; rfl)
        have h2' : (b != 0) = false := by rw [bne, h2]; rfl
        clear hneg hH hL ha hb
        go_enter Try.func144, Try.ntmps144
        go_wp2_with (first | (go_at_call 112; (with_reducible refine (q1.out _).mono ?_); rintro e _ ⟨rfl, nx, rfl⟩) | (go_at_call 112; (with_reducible refine (q2.out _).mono ?_); rintro e _ ⟨rfl, nx, rfl⟩) | (go_at_call 152; (with_reducible refine (q3.out _).mono ?_); rintro e _ ⟨rfl, nx, rfl⟩))
        exact bodyPost_ret (v := .agg #[.bool false, .int .u64 (H : Int), .int .u64 (L : Int)]) (by simp [results, Try.results144, go_sem]) rfl ⟨by rw [HN.out], ext_of (by (try simp only [ext_ext]); repeat (first | exact Bel.refl _ | assumption | refine bel_and ?_ _ | refine bel_drews ?_ _ | refine Bel.ext ?_ _ | refine Bel.alloc ?_ _ | refine Bel.drewN ?_ _))⟩
      | false =>
        have HN : Hid (decide (a * b < 0) = true) := Lib.hid (by rw [hneg, hk, h1, h2]; rfl)
        have h2' : (b != 0) = true := by rw [bne, h2]; rfl
        clear hneg hH hL ha hb
        go_enter Try.func144, Try.ntmps144
        go_wp2_with (first | (go_at_call 112; (with_reducible refine (q1.out _).mono ?_); rintro e _ ⟨rfl, nx, rfl⟩) | (go_at_call 112; (with_reducible refine (q2.out _).mono ?_); rintro e _ ⟨rfl, nx, rfl⟩) | (go_at_call 152; (with_reducible refine (q3.out _).mono ?_); rintro e _ ⟨rfl, nx, rfl⟩))
        exact bodyPost_ret (v := .agg #[.bool true, .int .u64 (H : Int), .int .u64 (L : Int)]) (by simp [results, Try.results144, go_sem]) rfl ⟨by rw [HN.out], ext_of (by (try simp only [ext_ext]); repeat (first | exact Bel.refl _ | assumption | refine bel_and ?_ _ | refine bel_drews ?_ _ | refine Bel.ext ?_ _ | refine Bel.alloc ?_ _ | refine Bel.drewN ?_ _))⟩

set_option maxHeartbeats 1000000 in
theorem refLess_any (n1 n2 : Bool) (h1 l1 h2 l2 : Nat) (w : World) (b1 : h1 < 18446744073709551616) (b2 : l1 < 18446744073709551616) (b3 : h2 < 18446744073709551616) (b4 : l2 < 18446744073709551616) :
    Calls Try.prog 150 #[.agg #[.bool n1, .int .u64 h1, .int .u64 l1], .agg #[.bool n2, .int .u64 h2, .int .u64 l2]] w fun e w' => e = .returned (.int .i64 (cmpZ ((h1 : Int) * 18446744073709551616 + l1) ((h2 : Int) * 18446744073709551616 + l2))) ∧ ∃ x, w' = ext w x := by
  rcases Nat.lt_trichotomy h1 h2 with h | h | h
  · have HR := Lib.hid (cmpZ_lt (a := (h1 : Int) * 18446744073709551616 + l1) (b := (h2 : Int) * 18446744073709551616 + l2) (by omega))
    have e1 : ((h1 : Int) == (h2 : Int)) = false := by rw [beq_eq_false_iff_ne]; omega
    have e2 : ((h1 : Int) != (h2 : Int)) = true := by rw [bne, e1]; rfl
    have e3 : (h1 : Int) < (h2 : Int) := by omega
    clear b1 b2 b3 b4
    go_enter Try.func150, Try.ntmps150
    go_wp2
    (go_ret; exact ⟨ret_int (by exact HR.out.symm), ext_of (by (try simp only [ext_ext]); repeat (first | exact Bel.refl _ | assumption | refine bel_and ?_ _ | refine bel_drews ?_ _ | refine Bel.ext ?_ _ | refine Bel.alloc ?_ _ | refine Bel.drewN ?_ _))⟩)
  · subst h
    rcases Nat.lt_trichotomy l1 l2 with k | k | k
    · have HR := Lib.hid (cmpZ_lt (a := (h1 : Int) * 18446744073709551616 + l1) (b := (h1 : Int) * 18446744073709551616 + l2) (by omega))
      have e1 : ((l1 : Int) == (l2 : Int)) = false := by rw [beq_eq_false_iff_ne]; omega
      have e2 : ((l1 : Int) != (l2 : Int)) = true := by rw [bne, e1]; rfl
      have e3 : (l1 : Int) < (l2 : Int) := by omega
      clear b1 b2 b3 b4
      go_enter Try.func150, Try.ntmps150
      go_wp2
      (go_ret; exact ⟨ret_int (by exact HR.out.symm), ext_of (by (try simp only [ext_ext]); repeat (first | exact Bel.refl _ | assumption | refine bel_and ?_ _ | refine bel_drews ?_ _ | refine Bel.ext ?_ _ | refine Bel.alloc ?_ _ | refine Bel.drewN ?_ _))⟩)
    · subst k
      have HR := Lib.hid (cmpZ_eq (a := (h1 : Int) * 18446744073709551616 + l1) (b := (h1 : Int) * 18446744073709551616 + l1) rfl)
      clear b1 b2 b3 b4
      go_enter Try.func150, Try.ntmps150
      go_wp2
      (go_ret; exact ⟨ret_int (by exact HR.out.symm), ext_of (by (try simp only [ext_ext]); repeat (first | exact Bel.refl _ | assumption | refine bel_and ?_ _ | refine bel_drews ?_ _ | refine Bel.ext ?_ _ | refine Bel.alloc ?_ _ | refine Bel.drewN ?_ _))⟩)
    · have HR := Lib.hid (cmpZ_gt (a := (h1 : Int) * 18446744073709551616 + l1) (b := (h1 : Int) * 18446744073709551616 + l2) (by omega))
      have e1 : ((l1 : Int) == (l2 : Int)) = false := by rw [beq_eq_false_iff_ne]; omega
      have e2 : ((l1 : Int) != (l2 : Int)) = true := by rw [bne, e1]; rfl
      have e3 : ¬ (l1 : Int) < (l2 : Int) := by omega
      clear b1 b2 b3 b4
      go_enter Try.func150, Try.ntmps150
      go_wp2
      (go_ret; exact ⟨ret_int (by exact HR.out.symm), ext_of (by (try simp only [ext_ext]); repeat (first | exact Bel.refl _ | assumption | refine bel_and ?_ _ | refine bel_drews ?_ _ | refine Bel.ext ?_ _ | refine Bel.alloc ?_ _ | refine Bel.drewN ?_ _))⟩)
  · have HR := Lib.hid (cmpZ_gt (a := (h1 : Int) * 18446744073709551616 + l1) (b := (h2 : Int) * 18446744073709551616 + l2) (by omega))
    have e1 : ((h1 : Int) == (h2 : Int)) = false := by rw [beq_eq_false_iff_ne]; omega
    have e2 : ((h1 : Int) != (h2 : Int)) = true := by rw [bne, e1]; rfl
    have e3 : ¬ (h1 : Int) < (h2 : Int) := by omega
    clear b1 b2 b3 b4
    go_enter Try.func150, Try.ntmps150
    go_wp2
    (go_ret; exact ⟨ret_int (by exact HR.out.symm), ext_of (by (try simp only [ext_ext]); repeat (first | exact Bel.refl _ | assumption | refine bel_and ?_ _ | refine bel_drews ?_ _ | refine Bel.ext ?_ _ | refine Bel.alloc ?_ _ | refine Bel.drewN ?_ _))⟩)
end Go.Proofs.Ytkcpnclgcmnlcaa

namespace Go.Proofs.Ytkcpnclgcmnlcaa
open Go.RowKit Go.Pel
theorem wu' (x : Int) (y : Nat) (h : x = y ∨ x = (y : Int) - 18446744073709551616) (hy : y < 18446744073709551616) : IntKind.u64.wrap x = (y : Int) := by rw [IntKind.wrap_u64]; omega
set_option maxHeartbeats 1000000 in
theorem minus_any (n1 n2 : Bool) (M1 M2 : Nat) (w : World) (h : M2 ≤ M1) (hb : M1 < 340282366920938463463374607431768211456) :
    Calls Try.prog 151 #[.agg #[.bool n1, .int .u64 ((M1 / 18446744073709551616 : Nat) : Int), .int .u64 ((M1 % 18446744073709551616 : Nat) : Int)], .agg #[.bool n2, .int .u64 ((M2 / 18446744073709551616 : Nat) : Int), .int .u64 ((M2 % 18446744073709551616 : Nat) : Int)]] w
      fun e w' => e = .returned (.agg #[.bool false, .int .u64 (((M1 - M2) / 18446744073709551616 : Nat) : Int), .int .u64 (((M1 - M2) % 18446744073709551616 : Nat) : Int)]) ∧ ∃ x, w' = ext w x := by
  obtain ⟨h1, e1⟩ : ∃ x, M1 / 18446744073709551616 = x := ⟨_, rfl⟩
  obtain ⟨l1, e2⟩ : ∃ x, M1 % 18446744073709551616 = x := ⟨_, rfl⟩
  obtain ⟨h2, e3⟩ : ∃ x, M2 / 18446744073709551616 = x := ⟨_, rfl⟩
  obtain ⟨l2, e4⟩ : ∃ x, M2 % 18446744073709551616 = x := ⟨_, rfl⟩
  obtain ⟨h3, e5⟩ : ∃ x, (M1 - M2) / 18446744073709551616 = x := ⟨_, rfl⟩
  obtain ⟨l3, e6⟩ : ∃ x, (M1 - M2) % 18446744073709551616 = x := ⟨_, rfl⟩
  rw [e1, e2, e3, e4, e5, e6]
  have w1 : IntKind.u64.wrap ((l1 : Int) - l2) = (l3 : Int) := wu' _ _ (by omega) (by omega)
  by_cases hl : l1 < l2
  · obtain ⟨h4, e7⟩ : ∃ x, h1 - h2 = x := ⟨_, rfl⟩
    have w2 : IntKind.u64.wrap ((h1 : Int) - h2) = (h4 : Int) := wu' _ _ (by omega) (by omega)
    have w3 : IntKind.u64.wrap ((h4 : Int) - 1) = (h3 : Int) := wu' _ _ (by omega) (by omega)
    have hl' : (l1 : Int) < (l2 : Int) := by omega
    clear e1 e2 e3 e4 e5 e6 e7 h hb hl
    go_enter Try.func151, Try.ntmps151
    go_wp2
    exact bodyPost_ret (v := .agg #[.bool false, .int .u64 (h3 : Int), .int .u64 (l3 : Int)]) (by simp [results, Try.results151, go_sem]) rfl ⟨by rfl, ext_of (by (try simp only [ext_ext]); repeat (first | exact Bel.refl _ | assumption | refine bel_and ?_ _ | refine bel_drews ?_ _ | refine Bel.ext ?_ _ | refine Bel.alloc ?_ _ | refine Bel.drewN ?_ _))⟩
  · have w2 : IntKind.u64.wrap ((h1 : Int) - h2) = (h3 : Int) := wu' _ _ (by omega) (by omega)
    have hl' : ¬ (l1 : Int) < (l2 : Int) := by omega
    clear e1 e2 e3 e4 e5 e6 h hb hl
    go_enter Try.func151, Try.ntmps151
    go_wp2
    exact bodyPost_ret (v := .agg #[.bool false, .int .u64 (h3 : Int), .int .u64 (l3 : Int)]) (by simp [results, Try.results151, go_sem]) rfl ⟨by rfl, ext_of (by (try simp only [ext_ext]); repeat (first | exact Bel.refl _ | assumption | refine bel_and ?_ _ | refine bel_drews ?_ _ | refine Bel.ext ?_ _ | refine Bel.alloc ?_ _ | refine Bel.drewN ?_ _))⟩
set_option maxHeartbeats 1000000 in
theorem sign_any (P : Int) (w : World) :
    Calls Try.prog 142 #[.agg #[.bool (decide (P < 0)), .int .u64 ((P.natAbs / 18446744073709551616 : Nat) : Int), .int .u64 ((P.natAbs % 18446744073709551616 : Nat) : Int)]] w fun e w' => e = .returned (.int .i64 (cmpZ P 0)) ∧ ∃ x, w' = ext w x := by
  obtain ⟨h1, e1⟩ : ∃ x, P.natAbs / 18446744073709551616 = x := ⟨_, rfl⟩
  obtain ⟨l1, e2⟩ : ∃ x, P.natAbs % 18446744073709551616 = x := ⟨_, rfl⟩
  rw [e1, e2]
  rcases Int.lt_trichotomy P 0 with h | h | h
  · have HR := Lib.hid (cmpZ_lt h)
    rw [decide_eq_true h]
    cases k1 : ((h1 : Int) == 0) with
    | true =>
      have k2 : ((l1 : Int) == 0) = false := by rw [beq_iff_eq] at k1; rw [beq_eq_false_iff_ne]; omega
      clear e1 e2 h
      go_enter Try.func142, Try.ntmps142
      go_wp2
      (go_ret; exact ⟨ret_int (by exact HR.out.symm), ext_of (by (try simp only [ext_ext]); repeat (first | exact Bel.refl _ | assumption | refine bel_and ?_ _ | refine bel_drews ?_ _ | refine Bel.ext ?_ _ | refine Bel.alloc ?_ _ | refine Bel.drewN ?_ _))⟩)
    | false =>
      clear e1 e2 h
      go_enter Try.func142, Try.ntmps142
      go_wp2
      (go_ret; exact ⟨ret_int (by exact HR.out.symm), ext_of (by (try simp only [ext_ext]); repeat (first | exact Bel.refl _ | assumption | refine bel_and ?_ _ | refine bel_drews ?_ _ | refine Bel.ext ?_ _ | refine Bel.alloc ?_ _ | refine Bel.drewN ?_ _))⟩)
  · have HR := Lib.hid (cmpZ_eq h)
    have k1 : h1 = 0 := by omega
    have k2 : l1 = 0 := by omega
    subst h k1 k2
    clear e1 e2
    go_enter Try.func142, Try.ntmps142
    go_wp2
    (go_ret; exact ⟨ret_int (by exact HR.out.symm), ext_of (by (try simp only [ext_ext]); repeat (first | exact Bel.refl _ | assumption | refine bel_and ?_ _ | refine bel_drews ?_ _ | refine Bel.ext ?_ _ | refine Bel.alloc ?_ _ | refine Bel.drewN ?_ _))⟩)
  · have HR := Lib.hid (cmpZ_gt h)
    rw [decide_eq_false (by omega)]
    cases k1 : ((h1 : Int) == 0) with
    | true =>
      have k2 : ((l1 : Int) == 0) = false := by rw [beq_iff_eq] at k1; rw [beq_eq_false_iff_ne]; omega
      clear e1 e2 h
      go_enter Try.func142, Try.ntmps142
      go_wp2
      (go_ret; exact ⟨ret_int (by exact HR.out.symm), ext_of (by (try simp only [ext_ext]); repeat (first | exact Bel.refl _ | assumption | refine bel_and ?_ _ | refine bel_drews ?_ _ | refine Bel.ext ?_ _ | refine Bel.alloc ?_ _ | refine Bel.drewN ?_ _))⟩)
    | false =>
      clear e1 e2 h
      go_enter Try.func142, Try.ntmps142
      go_wp2
      (go_ret; exact ⟨ret_int (by exact HR.out.symm), ext_of (by (try simp only [ext_ext]); repeat (first | exact Bel.refl _ | assumption | refine bel_and ?_ _ | refine bel_drews ?_ _ | refine Bel.ext ?_ _ | refine Bel.alloc ?_ _ | refine Bel.drewN ?_ _))⟩)
/-- a number as the reference has it -/
def bigA (P : Int) : Value := .agg #[.bool (decide (P < 0)), .int .u64 ((P.natAbs / 18446744073709551616 : Nat) : Int), .int .u64 ((P.natAbs % 18446744073709551616 : Nat) : Int)]
set_option maxRecDepth 10000 in
set_option maxHeartbeats 2000000 in
theorem plus_any (P Q : Int) (w : World) (hP : P.natAbs < 85070591730234615865843651857942052864) (hQ : Q.natAbs < 85070591730234615865843651857942052864) :
    Calls Try.prog 143 #[.agg #[.bool (decide (P < 0)), .int .u64 ((P.natAbs / 18446744073709551616 : Nat) : Int), .int .u64 ((P.natAbs % 18446744073709551616 : Nat) : Int)], .agg #[.bool (decide (Q < 0)), .int .u64 ((Q.natAbs / 18446744073709551616 : Nat) : Int), .int .u64 ((Q.natAbs % 18446744073709551616 : Nat) : Int)]] w
      fun e w' => e = .returned (.agg #[.bool (decide (P + Q < 0)), .int .u64 (((P + Q).natAbs / 18446744073709551616 : Nat) : Int), .int .u64 (((P + Q).natAbs % 18446744073709551616 : Nat) : Int)]) ∧ ∃ x, w' = ext w x := by
  obtain ⟨h1, e1⟩ : ∃ x, P.natAbs / 18446744073709551616 = x := ⟨_, rfl⟩
  obtain ⟨l1, e2⟩ : ∃ x, P.natAbs % 18446744073709551616 = x := ⟨_, rfl⟩
  obtain ⟨h2, e3⟩ : ∃ x, Q.natAbs / 18446744073709551616 = x := ⟨_, rfl⟩
  obtain ⟨l2, e4⟩ : ∃ x, Q.natAbs % 18446744073709551616 = x := ⟨_, rfl⟩
  obtain ⟨h3, e5⟩ : ∃ x, (P + Q).natAbs / 18446744073709551616 = x := ⟨_, rfl⟩
  obtain ⟨l3, e6⟩ : ∃ x, (P + Q).natAbs % 18446744073709551616 = x := ⟨_, rfl⟩
  by_cases hs : decide (P < 0) = decide (Q < 0)
  · rw [e1, e2, e3, e4, e5, e6]
    have hR : decide (P + Q < 0) = decide (P < 0) := by
      by_cases h : P < 0
      · have hq : Q < 0 := by rw [decide_eq_true h] at hs; exact of_decide_eq_true hs.symm
        rw [decide_eq_true h, decide_eq_true (by omega)]
      · have hq : ¬ Q < 0 := by rw [decide_eq_false h] at hs; exact of_decide_eq_false hs.symm
        rw [decide_eq_false h, decide_eq_false (by omega)]
    have habs : (P + Q).natAbs = P.natAbs + Q.natAbs := by
      by_cases h : P < 0
      · have hq : Q < 0 := by rw [decide_eq_true h] at hs; exact of_decide_eq_true hs.symm
        omega
      · have hq : ¬ Q < 0 := by rw [decide_eq_false h] at hs; exact of_decide_eq_false hs.symm
        omega
    rw [hR, ← hs]
    obtain ⟨s, hsv⟩ : ∃ s, decide (P < 0) = s := ⟨_, rfl⟩
    rw [hsv]
    have w1 : IntKind.u64.wrap ((l1 : Int) + l2) = (l3 : Int) := by rw [IntKind.wrap_u64]; omega
    obtain ⟨h4, e7⟩ : ∃ x, h1 + h2 = x := ⟨_, rfl⟩
    have w2 : IntKind.u64.wrap ((h1 : Int) + h2) = (h4 : Int) := wu _ _ (by omega) (by omega)
    by_cases hl : l3 < l1
    · have w3 : IntKind.u64.wrap ((h4 : Int) + 1) = (h3 : Int) := wu _ _ (by omega) (by omega)
      have hl' : (l3 : Int) < (l1 : Int) := by omega
      clear e1 e2 e3 e4 e5 e6 e7 hP hQ hl hs hR hsv habs
      cases s with
      | false =>
        go_enter Try.func143, Try.ntmps143
        go_wp2
        exact bodyPost_ret (v := .agg #[.bool false, .int .u64 (h3 : Int), .int .u64 (l3 : Int)]) (by simp [results, Try.results143, go_sem]) rfl ⟨by rfl, ext_of (by (try simp only [ext_ext]); repeat (first | exact Bel.refl _ | assumption | refine bel_and ?_ _ | refine bel_drews ?_ _ | refine Bel.ext ?_ _ | refine Bel.alloc ?_ _ | refine Bel.drewN ?_ _))⟩
      | true =>
        go_enter Try.func143, Try.ntmps143
        go_wp2
        exact bodyPost_ret (v := .agg #[.bool true, .int .u64 (h3 : Int), .int .u64 (l3 : Int)]) (by simp [results, Try.results143, go_sem]) rfl ⟨by rfl, ext_of (by (try simp only [ext_ext]); repeat (first | exact Bel.refl _ | assumption | refine bel_and ?_ _ | refine bel_drews ?_ _ | refine Bel.ext ?_ _ | refine Bel.alloc ?_ _ | refine Bel.drewN ?_ _))⟩
    · obtain rfl : h4 = h3 := by omega
      have hl' : ¬ (l3 : Int) < (l1 : Int) := by omega
      clear e1 e2 e3 e4 e5 e6 e7 hP hQ hl hs hR hsv habs
      cases s with
      | false =>
        go_enter Try.func143, Try.ntmps143
        go_wp2
        exact bodyPost_ret (v := .agg #[.bool false, .int .u64 (h4 : Int), .int .u64 (l3 : Int)]) (by simp [results, Try.results143, go_sem]) rfl ⟨by rfl, ext_of (by (try simp only [ext_ext]); repeat (first | exact Bel.refl _ | assumption | refine bel_and ?_ _ | refine bel_drews ?_ _ | refine Bel.ext ?_ _ | refine Bel.alloc ?_ _ | refine Bel.drewN ?_ _))⟩
      | true =>
        go_enter Try.func143, Try.ntmps143
        go_wp2
        exact bodyPost_ret (v := .agg #[.bool true, .int .u64 (h4 : Int), .int .u64 (l3 : Int)]) (by simp [results, Try.results143, go_sem]) rfl ⟨by rfl, ext_of (by (try simp only [ext_ext]); repeat (first | exact Bel.refl _ | assumption | refine bel_and ?_ _ | refine bel_drews ?_ _ | refine Bel.ext ?_ _ | refine Bel.alloc ?_ _ | refine Bel.drewN ?_ _))⟩
  · have q1 := Lib.hid (fun W => refLess_any (decide (P < 0)) (decide (Q < 0)) h1 l1 h2 l2 W (by omega) (by omega) (by omega) (by omega))
    have m1 : (h1 : Int) * 18446744073709551616 + l1 = P.natAbs := by omega
    have m2 : (h2 : Int) * 18446744073709551616 + l2 = Q.natAbs := by omega
    rw [m1, m2] at q1
    by_cases hge : Q.natAbs ≤ P.natAbs
    · have q2 := Lib.hid (fun W => minus_any (decide (P < 0)) (decide (Q < 0)) P.natAbs Q.natAbs W hge (by omega))
      have habs : P.natAbs - Q.natAbs = (P + Q).natAbs := by
        by_cases h : P < 0
        · have hq : ¬ Q < 0 := by intro hq; rw [decide_eq_true h, decide_eq_true hq] at hs; exact hs rfl
          omega
        · have hq : Q < 0 := by
            rcases Classical.em (Q < 0) with hq | hq
            · exact hq
            · rw [decide_eq_false h, decide_eq_false hq] at hs; exact absurd rfl hs
          omega
      rw [habs, e1, e2, e3, e4, e5, e6] at q2
      rw [e1, e2, e3, e4, e5, e6]
      have hc : Hid (∃ v : Int, 0 ≤ v ∧ cmpZ (P.natAbs : Int) Q.natAbs = v) := Lib.hid (by
        by_cases h : P.natAbs = Q.natAbs
        · exact ⟨0, by omega, cmpZ_eq (by omega)⟩
        · exact ⟨1, by omega, cmpZ_gt (by omega)⟩)
      obtain ⟨v, hv, hv2⟩ := hc.out
      rw [hv2] at q1
      by_cases h : P < 0
      · rw [decide_eq_true h] at q1 q2 ⊢
        have hq : ¬ Q < 0 := by intro hq; rw [decide_eq_true h, decide_eq_true hq] at hs; exact hs rfl
        rw [decide_eq_false hq] at q1 q2 ⊢
        by_cases h0 : (P + Q).natAbs = 0
        · have hR := Lib.hid (decide_eq_false (show ¬ P + Q < 0 by omega))
          obtain rfl : h3 = 0 := by omega
          obtain rfl : l3 = 0 := by omega
          clear e1 e2 e3 e4 e5 e6 m1 m2 hge habs hc hv2 h hq h0 hs hP hQ
          go_enter Try.func143, Try.ntmps143
          go_wp2_with (first | (go_at_call 150; refine (q1.out _).mono ?_; rintro e _ ⟨rfl, nx, rfl⟩) | (go_at_call 151; refine (q2.out _).mono ?_; rintro e _ ⟨rfl, nx, rfl⟩))
          exact bodyPost_ret (v := .agg #[.bool false, .int .u64 0, .int .u64 0]) (by simp [results, Try.results143, go_sem]) rfl ⟨by (rw [hR.out]; rfl), ext_of (by (try simp only [ext_ext]); repeat (first | exact Bel.refl _ | assumption | refine bel_and ?_ _ | refine bel_drews ?_ _ | refine Bel.ext ?_ _ | refine Bel.alloc ?_ _ | refine Bel.drewN ?_ _))⟩
        · have hR := Lib.hid (decide_eq_true (show P + Q < 0 by omega))
          by_cases h30 : 0 < h3
          · have k1 : (0 : Int) < (h3 : Int) := by omega
            clear e1 e2 e3 e4 e5 e6 m1 m2 hge habs hc hv2 h hq h0 hs hP hQ
            go_enter Try.func143, Try.ntmps143
            go_wp2_with (first | (go_at_call 150; refine (q1.out _).mono ?_; rintro e _ ⟨rfl, nx, rfl⟩) | (go_at_call 151; refine (q2.out _).mono ?_; rintro e _ ⟨rfl, nx, rfl⟩))
            exact bodyPost_ret (v := .agg #[.bool true, .int .u64 (h3 : Int), .int .u64 (l3 : Int)]) (by simp [results, Try.results143, go_sem]) rfl ⟨by (rw [hR.out]), ext_of (by (try simp only [ext_ext]); repeat (first | exact Bel.refl _ | assumption | refine bel_and ?_ _ | refine bel_drews ?_ _ | refine Bel.ext ?_ _ | refine Bel.alloc ?_ _ | refine Bel.drewN ?_ _))⟩
          · have k1 : ¬ (0 : Int) < (h3 : Int) := by omega
            have k2 : (0 : Int) < (l3 : Int) := by omega
            have k2d : decide (0 < l3) = true := decide_eq_true (by omega)
            clear e1 e2 e3 e4 e5 e6 m1 m2 hge habs hc hv2 h hq h0 hs hP hQ
            go_enter Try.func143, Try.ntmps143
            go_wp2_with (first | (go_at_call 150; refine (q1.out _).mono ?_; rintro e _ ⟨rfl, nx, rfl⟩) | (go_at_call 151; refine (q2.out _).mono ?_; rintro e _ ⟨rfl, nx, rfl⟩))
            exact bodyPost_ret (v := .agg #[.bool true, .int .u64 (h3 : Int), .int .u64 (l3 : Int)]) (by simp [results, Try.results143, go_sem]) rfl ⟨by rw [hR.out], ext_of (by (try simp only [ext_ext]); repeat (first | exact Bel.refl _ | assumption | refine bel_and ?_ _ | refine bel_drews ?_ _ | refine Bel.ext ?_ _ | refine Bel.alloc ?_ _ | refine Bel.drewN ?_ _))⟩
      · rw [decide_eq_false h] at q1 q2 ⊢
        have hq : Q < 0 := by
          rcases Classical.em (Q < 0) with hq | hq
          · exact hq
          · rw [decide_eq_false h, decide_eq_false hq] at hs; exact absurd rfl hs
        rw [decide_eq_true hq] at q1 q2 ⊢
        have hR := Lib.hid (decide_eq_false (show ¬ P + Q < 0 by omega))
        clear e1 e2 e3 e4 e5 e6 m1 m2 hge habs hc hv2 h hq hs hP hQ
        go_enter Try.func143, Try.ntmps143
        go_wp2_with (first | (go_at_call 150; refine (q1.out _).mono ?_; rintro e _ ⟨rfl, nx, rfl⟩) | (go_at_call 151; refine (q2.out _).mono ?_; rintro e _ ⟨rfl, nx, rfl⟩))
        exact bodyPost_ret (v := .agg #[.bool false, .int .u64 (h3 : Int), .int .u64 (l3 : Int)]) (by simp [results, Try.results143, go_sem]) rfl ⟨by (rw [hR.out]), ext_of (by (try simp only [ext_ext]); repeat (first | exact Bel.refl _ | assumption | refine bel_and ?_ _ | refine bel_drews ?_ _ | refine Bel.ext ?_ _ | refine Bel.alloc ?_ _ | refine Bel.drewN ?_ _))⟩
    · have q2 := Lib.hid (fun W => minus_any (decide (Q < 0)) (decide (P < 0)) Q.natAbs P.natAbs W (by omega) (by omega))
      have habs : Q.natAbs - P.natAbs = (P + Q).natAbs := by
        by_cases h : P < 0
        · have hq : ¬ Q < 0 := by intro hq; rw [decide_eq_true h, decide_eq_true hq] at hs; exact hs rfl
          omega
        · have hq : Q < 0 := by
            rcases Classical.em (Q < 0) with hq | hq
            · exact hq
            · rw [decide_eq_false h, decide_eq_false hq] at hs; exact absurd rfl hs
          omega
      rw [habs, e1, e2, e3, e4, e5, e6] at q2
      rw [e1, e2, e3, e4, e5, e6]
      rw [cmpZ_lt (show (P.natAbs : Int) < Q.natAbs by omega)] at q1
      by_cases h : P < 0
      · rw [decide_eq_true h] at q1 q2 ⊢
        have hq : ¬ Q < 0 := by intro hq; rw [decide_eq_true h, decide_eq_true hq] at hs; exact hs rfl
        rw [decide_eq_false hq] at q1 q2 ⊢
        have hR := Lib.hid (decide_eq_false (show ¬ P + Q < 0 by omega))
        clear e1 e2 e3 e4 e5 e6 m1 m2 hge habs h hq hs hP hQ
        go_enter Try.func143, Try.ntmps143
        go_wp2_with (first | (go_at_call 150; refine (q1.out _).mono ?_; rintro e _ ⟨rfl, nx, rfl⟩) | (go_at_call 151; refine (q2.out _).mono ?_; rintro e _ ⟨rfl, nx, rfl⟩))
        exact bodyPost_ret (v := .agg #[.bool false, .int .u64 (h3 : Int), .int .u64 (l3 : Int)]) (by simp [results, Try.results143, go_sem]) rfl ⟨by (rw [hR.out]), ext_of (by (try simp only [ext_ext]); repeat (first | exact Bel.refl _ | assumption | refine bel_and ?_ _ | refine bel_drews ?_ _ | refine Bel.ext ?_ _ | refine Bel.alloc ?_ _ | refine Bel.drewN ?_ _))⟩
      · rw [decide_eq_false h] at q1 q2 ⊢
        have hq : Q < 0 := by
          rcases Classical.em (Q < 0) with hq | hq
          · exact hq
          · rw [decide_eq_false h, decide_eq_false hq] at hs; exact absurd rfl hs
        rw [decide_eq_true hq] at q1 q2 ⊢
        have hR := Lib.hid (decide_eq_true (show P + Q < 0 by omega))
        clear e1 e2 e3 e4 e5 e6 m1 m2 hge habs h hq hs hP hQ
        go_enter Try.func143, Try.ntmps143
        go_wp2_with (first | (go_at_call 150; refine (q1.out _).mono ?_; rintro e _ ⟨rfl, nx, rfl⟩) | (go_at_call 151; refine (q2.out _).mono ?_; rintro e _ ⟨rfl, nx, rfl⟩))
        exact bodyPost_ret (v := .agg #[.bool true, .int .u64 (h3 : Int), .int .u64 (l3 : Int)]) (by simp [results, Try.results143, go_sem]) rfl ⟨by (rw [hR.out]), ext_of (by (try simp only [ext_ext]); repeat (first | exact Bel.refl _ | assumption | refine bel_and ?_ _ | refine bel_drews ?_ _ | refine Bel.ext ?_ _ | refine Bel.alloc ?_ _ | refine Bel.drewN ?_ _))⟩
end Go.Proofs.Ytkcpnclgcmnlcaa

namespace Go.Proofs.Ytkcpnclgcmnlcaa
open Go.RowKit Go.Pel
set_option maxRecDepth 10000 in
set_option maxHeartbeats 2000000 in
theorem refFar_any (p q : Pt) (n d : Int) (w : World) (h : CmpIn p q n d) :
    Calls Try.prog 127 #[.agg #[.int .i64 p.id, .int .i64 p.a, .int .i64 p.b], .agg #[.int .i64 q.id, .int .i64 q.a, .int .i64 q.b], .agg #[.int .i64 n, .int .i64 d]] w fun e w' => e = .returned (.int .i64 (cmpZ (farD p q n d) 0)) ∧ ∃ x, w' = ext w x := by
  obtain ⟨k1, k2⟩ := far_bd h
  obtain ⟨h1, h2, h3, h4, h5, h6⟩ := h
  obtain ⟨P, hP⟩ : ∃ P, (p.a - q.a) * d = P := ⟨_, rfl⟩
  obtain ⟨Q, hQ⟩ : ∃ Q, (p.b - q.b) * n = Q := ⟨_, rfl⟩
  have q1 := fun W => refProduct_any (p.a - q.a) d W (by omega) (by omega)
  have q2 := fun W => refProduct_any (p.b - q.b) n W (by omega) (by omega)
  have hD : farD p q n d = P + Q := by unfold farD; rw [hP, hQ]
  rw [hP] at q1 k1
  rw [hQ] at q2 k2
  have q3 := fun W => plus_any P Q W (by omega) (by omega)
  have q4 := fun W => sign_any (P + Q) W
  obtain ⟨x1, y1⟩ : ∃ x, P.natAbs / 18446744073709551616 = x := ⟨_, rfl⟩
  obtain ⟨x2, y2⟩ : ∃ x, P.natAbs % 18446744073709551616 = x := ⟨_, rfl⟩
  obtain ⟨x3, y3⟩ : ∃ x, Q.natAbs / 18446744073709551616 = x := ⟨_, rfl⟩
  obtain ⟨x4, y4⟩ : ∃ x, Q.natAbs % 18446744073709551616 = x := ⟨_, rfl⟩
  obtain ⟨x5, y5⟩ : ∃ x, (P + Q).natAbs / 18446744073709551616 = x := ⟨_, rfl⟩
  obtain ⟨x6, y6⟩ : ∃ x, (P + Q).natAbs % 18446744073709551616 = x := ⟨_, rfl⟩
  obtain ⟨s1, z1⟩ : ∃ x, decide (P < 0) = x := ⟨_, rfl⟩
  obtain ⟨s2, z2⟩ : ∃ x, decide (Q < 0) = x := ⟨_, rfl⟩
  obtain ⟨s3, z3⟩ : ∃ x, decide (P + Q < 0) = x := ⟨_, rfl⟩
  rw [y1, y2, z1] at q1
  rw [y3, y4, z2] at q2
  simp only [y1, y2, y3, y4, y5, y6, z1, z2, z3] at q3
  simp only [y5, y6, z3] at q4
  clear y1 y2 y3 y4 y5 y6 z1 z2 z3
  have Q3 := Lib.hid q3
  have Q4 := Lib.hid q4
  have Q1 := Lib.hid q1
  have Q2 := Lib.hid q2
  rw [hD]
  obtain ⟨a1, a2⟩ := h1; obtain ⟨a3, a4⟩ := h2; obtain ⟨a5, a6⟩ := h3; obtain ⟨a7, a8⟩ := h4
  clear q1 q2 q3 q4 hP hQ hD k1 k2 h5 h6
  go_enter Try.func127, Try.ntmps127
  go_wp2
  have j1 : IntKind.i64.wrap (p.a - q.a) = p.a - q.a := IntWalk.i64_in _ (by omega)
  have j2 : IntKind.i64.wrap (p.b - q.b) = p.b - q.b := IntWalk.i64_in _ (by omega)
  ((first | refine RegC.wp_region_ext1 (by kernel_rfl) (by kernel_rfl) ?_ | refine RegC.wp_region_ext0 (by kernel_rfl) (by kernel_rfl) ?_); (repeat (any_goals (first | go_big_quiet_step (first | (go_at_call 144; with_reducible exact Calls.ext_of (Q1.out _)) | (go_at_call 144; with_reducible exact Calls.ext_of (Q2.out _)) | (go_at_call 143; with_reducible exact Calls.ext_of (Q3.out _)) | (go_at_call 142; with_reducible exact Calls.ext_of (Q4.out _))) | (refine RegC.wpQuiet_split rfl rfl (fun hb => ?_) (fun hb => ?_) <;> simp only [hb])))); all_goals (refine wpQuiet_nil ?_; rintro _ ⟨nq, rfl⟩))
  clear j1 j2
  go_wp2
  (go_ret; exact ⟨ret_int (by rfl), ext_of (by (try simp only [ext_ext]); repeat (first | exact Bel.refl _ | assumption | refine bel_and ?_ _ | refine bel_drews ?_ _ | refine Bel.ext ?_ _ | refine Bel.alloc ?_ _ | refine Bel.drewN ?_ _))⟩)
set_option maxRecDepth 10000 in
set_option maxHeartbeats 2000000 in
theorem refLeads_any (p q : Pt) (n d : Int) (w : World) (h : CmpIn p q n d) :
    Calls Try.prog 115 #[.agg #[.int .i64 p.id, .int .i64 p.a, .int .i64 p.b], .agg #[.int .i64 q.id, .int .i64 q.a, .int .i64 q.b], .agg #[.int .i64 n, .int .i64 d]] w fun e w' => e = .returned (.bool (leads p q n d)) ∧ ∃ x, w' = ext w x := by
  have q1 := Lib.hid (fun W => refFar_any p q n d W h)
  rcases (by omega : farD p q n d < 0 ∨ farD p q n d = 0 ∨ 0 < farD p q n d) with hd | hd | hd
  · have HR : Hid (leads p q n d = false) := Lib.hid (by unfold leads; rw [if_pos (by omega)]; simp; omega)
    rw [cmpZ_lt hd] at q1
    clear hd h
    go_enter Try.func115, Try.ntmps115
    go_wp2_with ((go_at_call 127; refine (q1.out _).mono ?_; rintro e _ ⟨rfl, nx, rfl⟩))
    (go_ret; exact ⟨ret_bool (by rw [HR.out]), ext_of (by (try simp only [ext_ext]); repeat (first | exact Bel.refl _ | assumption | refine bel_and ?_ _ | refine bel_drews ?_ _ | refine Bel.ext ?_ _ | refine Bel.alloc ?_ _ | refine Bel.drewN ?_ _))⟩)
  · rw [cmpZ_eq hd] at q1
    by_cases hb : p.b = q.b
    · have HR : Hid (leads p q n d = decide (p.id < q.id)) := Lib.hid (by unfold leads; rw [if_neg (by omega), if_neg (by omega)])
      have hb' : (p.b == q.b) = true := by simpa using hb
      have hb2 : (p.b != q.b) = false := by simpa using hb
      clear hd h hb
      go_enter Try.func115, Try.ntmps115
      go_wp2_with ((go_at_call 127; refine (q1.out _).mono ?_; rintro e _ ⟨rfl, nx, rfl⟩))
      (go_ret; exact ⟨ret_bool (by exact HR.out.symm), ext_of (by (try simp only [ext_ext]); repeat (first | exact Bel.refl _ | assumption | refine bel_and ?_ _ | refine bel_drews ?_ _ | refine Bel.ext ?_ _ | refine Bel.alloc ?_ _ | refine Bel.drewN ?_ _))⟩)
    · have HR : Hid (leads p q n d = decide (q.b < p.b)) := Lib.hid (by unfold leads; rw [if_neg (by omega), if_pos hb])
      have hb' : (p.b == q.b) = false := by simpa using hb
      have hb2 : (p.b != q.b) = true := by simpa using hb
      clear hd h hb
      go_enter Try.func115, Try.ntmps115
      go_wp2_with ((go_at_call 127; refine (q1.out _).mono ?_; rintro e _ ⟨rfl, nx, rfl⟩))
      (go_ret; exact ⟨ret_bool (by exact HR.out.symm), ext_of (by (try simp only [ext_ext]); repeat (first | exact Bel.refl _ | assumption | refine bel_and ?_ _ | refine bel_drews ?_ _ | refine Bel.ext ?_ _ | refine Bel.alloc ?_ _ | refine Bel.drewN ?_ _))⟩)
  · have HR : Hid (leads p q n d = true) := Lib.hid (by unfold leads; rw [if_pos (by omega)]; exact decide_eq_true hd)
    rw [cmpZ_gt hd] at q1
    clear hd h
    go_enter Try.func115, Try.ntmps115
    go_wp2_with ((go_at_call 127; refine (q1.out _).mono ?_; rintro e _ ⟨rfl, nx, rfl⟩))
    (go_ret; exact ⟨ret_bool (by rw [HR.out]), ext_of (by (try simp only [ext_ext]); repeat (first | exact Bel.refl _ | assumption | refine bel_and ?_ _ | refine bel_drews ?_ _ | refine Bel.ext ?_ _ | refine Bel.alloc ?_ _ | refine Bel.drewN ?_ _))⟩)
end Go.Proofs.Ytkcpnclgcmnlcaa

namespace Go.Pel
open Go Go.RowKit
def rankR (l : List Pt) (p : Pt) (n d : Int) : Nat := (l.filter fun q => (q.id != p.id) && leads q p n d).length
theorem rankR_snoc (l : List Pt) (x p : Pt) (n d : Int) : rankR (l ++ [x]) p n d = rankR l p n d + (if ((x.id != p.id) && leads x p n d) = true then 1 else 0) := by
  unfold rankR; rw [List.filter_append, List.length_append]
  congr 1
  rw [List.filter_cons]; split <;> simp
theorem rankR_le (l : List Pt) (p : Pt) (n d : Int) : rankR l p n d ≤ l.length := List.length_filter_le _ _
def timed (l : List Pt) (n d : Int) : Int := if fieldChk l ≠ 0 then fieldChk l else ratioChk n d
end Go.Pel
namespace Go.Proofs.Ytkcpnclgcmnlcaa
open Go.RowKit Go.Pel
set_option maxRecDepth 10000 in
set_option maxHeartbeats 2000000 in
theorem sameIDs_any (A B : Option Addr) (c d : Nat) (l m : List Int) (w : World) (hs : Sl w 1 A l.length c (vi l)) (ht : Sl w 1 B m.length d (vi m)) (hl : l.length ≤ 1000000) (hm : m.length ≤ 1000000) :
    Calls Try.prog 34 #[.slice A l.length c, .slice B m.length d] w fun e w' => e = .returned (.bool (decide (l = m))) ∧ ∃ x, w' = ext w x := by
  by_cases hn : l.length = m.length
  · have z0 : ((l.length : Int) != (m.length : Int)) = false := by rw [bne_eq_false_iff_eq]; omega
    have HN := Lib.hid hn
    have hle1 : l.length ≤ m.length := by omega
    have hle2 : m.length ≤ l.length := by omega
    clear hn
    go_enter Try.func34, Try.ntmps34
    go_wp2
    go_loopw [5] (fun i wr => ∃ (k : Nat), k ≤ l.length ∧ i = .int .i64 k ∧ l.take k = m.take k ∧ ∃ y, wr = ext w y) (fun i _ => l.length - (intOf i).toNat)
    case atStart => exact ⟨0, Nat.zero_le _, rfl, rfl, ext_of (Bel.refl _)⟩
    case round =>
      obtain ⟨k, hk, rfl, hgo, y, rfl⟩ := hrel
      have HG := Lib.hid hgo; clear hgo
      by_cases hlt : k < l.length
      · obtain ⟨x, hx⟩ : ∃ x, l[k]? = some x := ⟨_, List.getElem?_eq_getElem hlt⟩
        obtain ⟨x', hx'⟩ : ∃ x, m[k]? = some x := ⟨_, List.getElem?_eq_getElem (by omega)⟩
        obtain ⟨b, o, rfl, hb⟩ := hs.at_ (by omega)
        obtain ⟨b2, o2, rfl, hb2⟩ := ht.at_ (by omega)
        have r0 := sl_int hs hx
        have q0 := sl_int ht hx'
        have HX := Lib.hid hx
        have HX' := Lib.hid hx'
        have hlt1 : (k : Int) < (l.length : Int) := by omega
        have hlt2 : (k : Int) < (m.length : Int) := by omega
        clear hx hx'
        have HE := Lib.hid (show l.take (k + 1) = l.take k ++ [x] by rw [List.take_add_one, HX.out]; rfl)
        have HE' := Lib.hid (show m.take (k + 1) = m.take k ++ [x'] by rw [List.take_add_one, HX'.out]; rfl)
        by_cases hxy : x = x'
        · subst hxy
          have heq : (x != x) = false := by simp
          go_wp2
          ((first | refine RegC.wp_region_ext1 (by kernel_rfl) (by kernel_rfl) ?_ | refine RegC.wp_region_ext0 (by kernel_rfl) (by kernel_rfl) ?_); (repeat (any_goals (first | go_big_quiet_step (fail) | (refine RegC.wpQuiet_split rfl rfl (fun hb => ?_) (fun hb => ?_) <;> simp only [hb])))); all_goals (refine wpQuiet_nil ?_; rintro _ ⟨nq, rfl⟩))
          go_wp2
          go_roundw
          case rel =>
            refine ⟨k + 1, by omega, by go_num, ?_, ext_of (by (try simp only [ext_ext]); repeat (first | exact Bel.refl _ | assumption | refine bel_and ?_ _ | refine bel_drews ?_ _ | refine Bel.ext ?_ _ | refine Bel.alloc ?_ _ | refine Bel.drewN ?_ _))⟩
            rw [HE.out, HE'.out, HG.out]
          case measure => (first | (simp [intOf]; done) | (simp [intOf]; omega))
        · have heq : (x != x') = true := by simpa using hxy
          have z1 : decide (l = m) = false := by rw [decide_eq_false_iff_not]; intro h; apply hxy; have h1 := HX.out; rw [h, HX'.out] at h1; exact (Option.some.inj h1).symm
          have Z1 := Lib.hid z1
          clear z1 hxy
          go_wp2
          ((first | refine RegC.wp_region_ext1 (by kernel_rfl) (by kernel_rfl) ?_ | refine RegC.wp_region_ext0 (by kernel_rfl) (by kernel_rfl) ?_); (repeat (any_goals (first | go_big_quiet_step (fail) | (refine RegC.wpQuiet_split rfl rfl (fun hb => ?_) (fun hb => ?_) <;> simp only [hb])))); all_goals (refine wpQuiet_nil ?_; rintro _ ⟨nq, rfl⟩))
          go_wp2
          (go_ret; exact ⟨ret_bool (by exact Z1.out.symm), ext_of (by (try simp only [ext_ext]); repeat (first | exact Bel.refl _ | assumption | refine bel_and ?_ _ | refine bel_drews ?_ _ | refine Bel.ext ?_ _ | refine Bel.alloc ?_ _ | refine Bel.drewN ?_ _))⟩)
      · have z1 : decide (l = m) = true := by
          rw [decide_eq_true_eq]
          have h := HG.out
          obtain rfl : k = l.length := by omega
          rw [List.take_length] at h
          rw [h, HN.out, List.take_length]
        have Z1 := Lib.hid z1
        clear z1
        go_wp2
        (go_ret; exact ⟨ret_bool (by exact Z1.out.symm), ext_of (by (try simp only [ext_ext]); repeat (first | exact Bel.refl _ | assumption | refine bel_and ?_ _ | refine bel_drews ?_ _ | refine Bel.ext ?_ _ | refine Bel.alloc ?_ _ | refine Bel.drewN ?_ _))⟩)
  · have z0 : ((l.length : Int) != (m.length : Int)) = true := by rw [bne_iff_ne]; omega
    have Z1 := Lib.hid (show decide (l = m) = false by rw [decide_eq_false_iff_not]; intro h; exact hn (by rw [h]))
    clear hn
    go_enter Try.func34, Try.ntmps34
    go_wp2
    (go_ret; exact ⟨ret_bool (by exact Z1.out.symm), ext_of (by (try simp only [ext_ext]); repeat (first | exact Bel.refl _ | assumption | refine bel_and ?_ _ | refine bel_drews ?_ _ | refine Bel.ext ?_ _ | refine Bel.alloc ?_ _ | refine Bel.drewN ?_ _))⟩)
set_option maxRecDepth 10000 in
set_option maxHeartbeats 2000000 in
theorem timed_any (A : Option Addr) (c : Nat) (l : List Pt) (n d : Int) (w : World) (hn : -9223372036854775808 ≤ n ∧ n ≤ 9223372036854775807) (hd : -9223372036854775808 ≤ d ∧ d ≤ 9223372036854775807) (hs : Sl w 3 A l.length c (vp l)) (hl : l.length ≤ 1000000) :
    Calls Try.prog 45 #[.agg #[.slice A l.length c], .agg #[.int .i64 n, .int .i64 d]] w fun e w' => e = .returned (.int .i64 (timed l n d)) ∧ ∃ x, w' = ext w x := by
  have q := Lib.hid (fun W hb => ref03Check_any A c l W (hs.bel (w' := W) hb))
  have q2 := Lib.hid (fun W => ref01Check_any n d W hn hd)
  unfold timed
  generalize fieldChk l = v at q ⊢
  by_cases h : v = 0
  · subst h
    rw [if_neg (by decide)]
    clear hn hd
    go_enter Try.func45, Try.ntmps45
    go_wp2_with (first | (go_at_call 26; refine (q.out _ (by (try simp only [ext_ext]); repeat (first | exact Bel.refl _ | assumption | refine bel_and ?_ _ | refine bel_drews ?_ _ | refine Bel.ext ?_ _ | refine Bel.alloc ?_ _ | refine Bel.drewN ?_ _))).mono ?_; rintro e _ ⟨rfl, nx, rfl⟩) | (go_at_call 89; refine (q2.out _).mono ?_; rintro e _ ⟨rfl, nx, rfl⟩))
    (go_ret; exact ⟨ret_int (by rfl), ext_of (by (try simp only [ext_ext]); repeat (first | exact Bel.refl _ | assumption | refine bel_and ?_ _ | refine bel_drews ?_ _ | refine Bel.ext ?_ _ | refine Bel.alloc ?_ _ | refine Bel.drewN ?_ _))⟩)
  · rw [if_pos h]
    have h' : (v != 0) = true := by simpa using h
    clear h hn hd
    go_enter Try.func45, Try.ntmps45
    go_wp2_with (first | (go_at_call 26; refine (q.out _ (by (try simp only [ext_ext]); repeat (first | exact Bel.refl _ | assumption | refine bel_and ?_ _ | refine bel_drews ?_ _ | refine Bel.ext ?_ _ | refine Bel.alloc ?_ _ | refine Bel.drewN ?_ _))).mono ?_; rintro e _ ⟨rfl, nx, rfl⟩) | (go_at_call 89; refine (q2.out _).mono ?_; rintro e _ ⟨rfl, nx, rfl⟩))
    (go_ret; exact ⟨ret_int (by rfl), ext_of (by (try simp only [ext_ext]); repeat (first | exact Bel.refl _ | assumption | refine bel_and ?_ _ | refine bel_drews ?_ _ | refine Bel.ext ?_ _ | refine Bel.alloc ?_ _ | refine Bel.drewN ?_ _))⟩)
end Go.Proofs.Ytkcpnclgcmnlcaa

namespace Go.Proofs.Ytkcpnclgcmnlcaa
open Go.RowKit Go.Pel
theorem refLeads_lit (p q : Pt) (n d : Int) (v : Bool) (h : CmpIn p q n d) (hv : leads p q n d = v) (w : World) :
    Calls Try.prog 115 #[.agg #[.int .i64 p.id, .int .i64 p.a, .int .i64 p.b], .agg #[.int .i64 q.id, .int .i64 q.a, .int .i64 q.b], .agg #[.int .i64 n, .int .i64 d]] w fun e w' => e = .returned (.bool v) ∧ ∃ x, w' = ext w x := hv ▸ refLeads_any p q n d w h
set_option maxRecDepth 10000 in
set_option maxHeartbeats 2000000 in
theorem ranked_any (A : Option Addr) (c : Nat) (l : List Pt) (p : Pt) (n d : Int) (w : World) (hs : Sl w 3 A l.length c (vp l)) (hl : l.length ≤ 1000000) (hin : ∀ q ∈ l, CmpIn q p n d) :
    Calls Try.prog 93 #[.agg #[.slice A l.length c], .agg #[.int .i64 p.id, .int .i64 p.a, .int .i64 p.b], .agg #[.int .i64 n, .int .i64 d]] w fun e w' => e = .returned (.int .i64 (rankR l p n d)) ∧ ∃ x, w' = ext w x := by
  have HIN := Lib.hid hin; clear hin
  go_enter Try.func93, Try.ntmps93
  go_wp2
  go_loopw [7, 8] (fun a i wr => ∃ (k : Nat), k ≤ l.length ∧ i = .int .i64 k ∧ a = .int .i64 (rankR (l.take k) p n d) ∧ ∃ y, wr = ext (((w.alloc (.cells #[.slice A l.length c] 24)).alloc (.cells #[.int .i64 p.id, .int .i64 p.a, .int .i64 p.b] 26)).alloc (.cells #[.int .i64 n, .int .i64 d] 49)) y) (fun _ i _ => l.length - (intOf i).toNat)
  case atStart => exact ⟨0, Nat.zero_le _, rfl, rfl, ext_of (Bel.refl _)⟩
  case round =>
    obtain ⟨k, hk, rfl, rfl, y, rfl⟩ := hrel
    have hrk := rankR_le (l.take k) p n d
    have hrk2 : (l.take k).length ≤ k := by rw [List.length_take]; omega
    by_cases hlt : k < l.length
    · obtain ⟨x, hx⟩ : ∃ x, l[k]? = some x := ⟨_, List.getElem?_eq_getElem hlt⟩
      obtain ⟨b, o, rfl, hb⟩ := hs.at_ (by omega)
      obtain ⟨r0, r1, r2⟩ := pt_at hs hx
      have hE : rankR (l.take (k + 1)) p n d = rankR (l.take k) p n d + (if ((x.id != p.id) && leads x p n d) = true then 1 else 0) := by
        rw [List.take_add_one, hx]; exact rankR_snoc _ _ _ _ _
      have hcin := HIN.out x (List.mem_of_getElem? hx)
      have hlt' : (k : Int) < (l.length : Int) := by omega
      obtain ⟨R, hR⟩ : ∃ R, rankR (l.take k) p n d = R := ⟨_, rfl⟩
      rw [hR] at hE hrk ⊢
      clear hR hx
      have hR' : (R : Int) ≤ 1000000 := by omega
      have hR0 : (0 : Int) ≤ R := by omega
      by_cases hid : x.id = p.id
      · have hd : (x.id != p.id) = false := by simpa using hid
        have HE := Lib.hid (show rankR (l.take (k + 1)) p n d = R by rw [hE, hd]; rfl)
        clear hE hcin hid
        go_wp2
        ((first | refine RegC.wp_region_ext1 (by kernel_rfl) (by kernel_rfl) ?_ | refine RegC.wp_region_ext0 (by kernel_rfl) (by kernel_rfl) ?_); (repeat (any_goals (first | go_big_quiet_step (fail) | (refine RegC.wpQuiet_split rfl rfl (fun hb => ?_) (fun hb => ?_) <;> simp only [hb])))); all_goals (refine wpQuiet_nil ?_; rintro _ ⟨nq, rfl⟩))
        go_wp2
        go_roundw
        case rel => exact ⟨k + 1, by omega, by go_num, by rw [HE.out], ext_of (by (try simp only [ext_ext]); repeat (first | exact Bel.refl _ | assumption | refine bel_and ?_ _ | refine bel_drews ?_ _ | refine Bel.ext ?_ _ | refine Bel.alloc ?_ _ | refine Bel.drewN ?_ _))⟩
        case measure => (first | (simp [intOf]; done) | (simp [intOf]; omega))
      · have hd : (x.id != p.id) = true := by simpa using hid
        cases hv : leads x p n d with
        | false =>
          have HE := Lib.hid (show rankR (l.take (k + 1)) p n d = R by rw [hE, hd, hv]; rfl)
          have q1 := Lib.hid (refLeads_lit x p n d false hcin hv)
          clear hE hcin hid hv
          go_wp2
          ((first | refine RegC.wp_region_ext1 (by kernel_rfl) (by kernel_rfl) ?_ | refine RegC.wp_region_ext0 (by kernel_rfl) (by kernel_rfl) ?_); (repeat (any_goals (first | go_big_quiet_step ((go_at_call 115; with_reducible first | exact Calls.ext_of1 (q1.out _) | exact Calls.ext_of (q1.out _))) | (refine RegC.wpQuiet_split rfl rfl (fun hb => ?_) (fun hb => ?_) <;> simp only [hb])))); all_goals (refine wpQuiet_nil ?_; rintro _ ⟨nq, rfl⟩))
          go_wp2
          go_roundw
          case rel => exact ⟨k + 1, by omega, by go_num, by rw [HE.out], ext_of (by (try simp only [ext_ext]); repeat (first | exact Bel.refl _ | assumption | refine bel_and ?_ _ | refine bel_drews ?_ _ | refine Bel.ext ?_ _ | refine Bel.alloc ?_ _ | refine Bel.drewN ?_ _))⟩
          case measure => (first | (simp [intOf]; done) | (simp [intOf]; omega))
        | true =>
          have HE := Lib.hid (show rankR (l.take (k + 1)) p n d = R + 1 by rw [hE, hd, hv]; rfl)
          have q1 := Lib.hid (refLeads_lit x p n d true hcin hv)
          clear hE hcin hid hv
          go_wp2
          ((first | refine RegC.wp_region_ext1 (by kernel_rfl) (by kernel_rfl) ?_ | refine RegC.wp_region_ext0 (by kernel_rfl) (by kernel_rfl) ?_); (repeat (any_goals (first | go_big_quiet_step ((go_at_call 115; with_reducible first | exact Calls.ext_of1 (q1.out _) | exact Calls.ext_of (q1.out _))) | (refine RegC.wpQuiet_split rfl rfl (fun hb => ?_) (fun hb => ?_) <;> simp only [hb])))); all_goals (refine wpQuiet_nil ?_; rintro _ ⟨nq, rfl⟩))
          go_wp2
          go_roundw
          case rel => exact ⟨k + 1, by omega, by go_num, by rw [HE.out]; go_num, ext_of (by (try simp only [ext_ext]); repeat (first | exact Bel.refl _ | assumption | refine bel_and ?_ _ | refine bel_drews ?_ _ | refine Bel.ext ?_ _ | refine Bel.alloc ?_ _ | refine Bel.drewN ?_ _))⟩
          case measure => (first | (simp [intOf]; done) | (simp [intOf]; omega))
    · obtain rfl : k = l.length := by omega
      rw [List.take_length]
      go_wp2
      (go_ret; exact ⟨ret_int (by rfl), ext_of (by (try simp only [ext_ext]); repeat (first | exact Bel.refl _ | assumption | refine bel_and ?_ _ | refine bel_drews ?_ _ | refine Bel.ext ?_ _ | refine Bel.alloc ?_ _ | refine Bel.drewN ?_ _))⟩)
end Go.Proofs.Ytkcpnclgcmnlcaa

namespace Go.Pel
open Go Go.RowKit
def ordK (l : List Pt) (n d : Int) (k : Nat) : List Int := (l.take k).foldl (fun acc p => acc.set (rankR l p n d) p.id) (List.replicate l.length 0)
theorem ordK_len (l : List Pt) (n d : Int) (k : Nat) : (ordK l n d k).length = l.length := by
  unfold ordK
  have : ∀ (m : List Pt) (acc : List Int), (m.foldl (fun acc p => acc.set (rankR l p n d) p.id) acc).length = acc.length := by
    intro m; induction m with
    | nil => intro acc; rfl
    | cons a r ih => intro acc; rw [List.foldl_cons, ih, List.length_set]
  rw [this, List.length_replicate]
theorem ordK_step {l : List Pt} {n d : Int} {k : Nat} {p : Pt} (h : l[k]? = some p) : ordK l n d (k + 1) = (ordK l n d k).set (rankR l p n d) p.id := by
  unfold ordK
  rw [List.take_add_one, h, List.foldl_append]; rfl
theorem rankR_lt {l : List Pt} {p : Pt} (h : p ∈ l) (n d : Int) : rankR l p n d < l.length := by
  unfold rankR
  rw [List.length_filter_lt_length_iff_exists]
  exact ⟨p, h, by simp⟩
theorem vi_set (l : List Int) (k : Nat) (x : Int) : vi (l.set k x) = (vi l).set k (.int .i64 x) := by simp [vi, List.map_set]
theorem vi_get {l : List Int} {k : Nat} (h : k < l.length) : ∃ x, (vi l)[k]? = some (.int .i64 x) := ⟨l[k], by simp [vi, h]⟩
end Go.Pel
namespace Go.Proofs.Ytkcpnclgcmnlcaa
open Go.RowKit Go.Pel
theorem ranked_lit (A : Option Addr) (c : Nat) (l : List Pt) (p : Pt) (n d : Int) (R : Nat) (hR : rankR l p n d = R) (w : World) (hs : Sl w 3 A l.length c (vp l)) (hl : l.length ≤ 1000000) (hin : ∀ q ∈ l, CmpIn q p n d) :
    Calls Try.prog 93 #[.agg #[.slice A l.length c], .agg #[.int .i64 p.id, .int .i64 p.a, .int .i64 p.b], .agg #[.int .i64 n, .int .i64 d]] w fun e w' => e = .returned (.int .i64 (R : Int)) ∧ ∃ x, w' = ext w x := hR ▸ ranked_any A c l p n d w hs hl hin
set_option maxRecDepth 10000 in
set_option maxHeartbeats 2000000 in
theorem ordered_any (A : Option Addr) (c : Nat) (l : List Pt) (n d : Int) (w : World) (hs : Sl w 3 A l.length c (vp l)) (hl : l.length ≤ 1000000) (hin : ∀ p ∈ l, ∀ q ∈ l, CmpIn q p n d) :
    Calls Try.prog 91 #[.agg #[.slice A l.length c], .agg #[.int .i64 n, .int .i64 d]] w fun e w' => ∃ A' c', e = .returned (.slice A' l.length c') ∧ ∃ x, w' = ext w x ∧ Own (ext w x) w.heap.size 3 1 A' l.length c' (vi (ordK l n d l.length)) := by
  have HIN := Lib.hid hin; clear hin
  go_enter Try.func91, Try.ntmps91
  go_wp2_with (refine make_ext slt_ints (Bel.refl _) (n := l.length) (by omega) rfl _ _ rfl rfl rfl ?_; rintro g y hg hown; rw [made_ints] at hown)
  go_loopw [6] (fun i wr => ∃ (k : Nat) (y : Beyond), k ≤ l.length ∧ i = .int .i64 k ∧ wr = ext ((w.alloc (.cells #[.slice A l.length c] 24)).alloc (.cells #[.int .i64 n, .int .i64 d] 49)) y ∧ Own (ext ((w.alloc (.cells #[.slice A l.length c] 24)).alloc (.cells #[.int .i64 n, .int .i64 d] 49)) y) (w.heap.size + 2) 3 1 (some ⟨g, 0, none⟩) l.length l.length (vi (ordK l n d k))) (fun i _ => l.length - (intOf i).toNat)
  case atStart => exact ⟨0, y, Nat.zero_le _, rfl, rfl, by simpa [ordK, vi, go_sem] using hown⟩
  case round =>
    obtain ⟨k, y3, hk, rfl, rfl, own3⟩ := hrel
    have hg2 := own3.ats
    clear hown
    by_cases hlt : k < l.length
    · obtain ⟨p, hp⟩ : ∃ p, l[k]? = some p := ⟨_, List.getElem?_eq_getElem hlt⟩
      have HS := Lib.hid (ordK_step (n := n) (d := d) hp)
      have hpm := List.mem_of_getElem? hp
      have hR := rankR_lt hpm n d
      obtain ⟨R, hR'⟩ : ∃ R, rankR l p n d = R := ⟨_, rfl⟩
      have q1 := Lib.hid (fun W hb => ranked_lit A c l p n d R hR' W (hs.bel (w' := W) hb) hl (HIN.out p hpm))
      rw [hR'] at HS hR
      obtain ⟨u, hu⟩ := vi_get (l := ordK l n d k) (k := R) (by rw [ordK_len]; exact hR)
      have b0 := own_cell own3 hu
      have z0 := own_frozen own3 R
      obtain ⟨b, o, rfl, hb2⟩ := hs.at_ (by omega)
      obtain ⟨r0, r1, r2⟩ := pt_at hs hp
      have hlt' : (k : Int) < (l.length : Int) := by omega
      have hRl : (R : Int) < (l.length : Int) := by omega
      have hgs := hg2.2
      simp [go_sem] at hgs
      clear hp hR' hu hg2 hpm hR
      go_wp2
      ((first | refine RegC.wp_region_tail1 16 (by kernel_rfl) (by kernel_rfl) ?_ | refine RegC.wp_region_tail0 16 (by kernel_rfl) (by kernel_rfl) ?_); simp only [List.take_succ_cons, List.take_zero, List.drop_succ_cons, List.drop_zero]; (repeat (any_goals (first | go_big_quiet_step ((go_at_call 93; with_reducible first | exact Calls.ext_of1 (q1.out _ (by (try simp only [ext_ext]); repeat (first | exact Bel.refl _ | assumption | refine bel_and ?_ _ | refine bel_drews ?_ _ | refine Bel.ext ?_ _ | refine Bel.alloc ?_ _ | refine Bel.drewN ?_ _))) | exact Calls.ext_of (q1.out _ (by (try simp only [ext_ext]); repeat (first | exact Bel.refl _ | assumption | refine bel_and ?_ _ | refine bel_drews ?_ _ | refine Bel.ext ?_ _ | refine Bel.alloc ?_ _ | refine Bel.drewN ?_ _))))) | (refine RegC.wpQuiet_split rfl rfl (fun hb => ?_) (fun hb => ?_) <;> simp only [hb])))); all_goals (refine wpQuiet_nil ?_; rintro _ ⟨nq, rfl⟩))
      go_wp2
      go_roundw
      case rel =>
        obtain ⟨y5, hy5, own5⟩ := own_exists ((bel_ext _ (y3.and nq)).setCell (p := ⟨g, R, none⟩) hg (.int .i64 p.id)) (World.ownsRow.stored (own3.bel (bel_and (Bel.refl _) nq)) R (.int .i64 p.id)).1 (Bel.refl _)
        rw [← vi_set, ← HS.out] at own5
        exact ⟨k + 1, y5, by omega, by go_num, hy5, own5⟩
      case measure => (first | (simp [intOf]; done) | (simp [intOf]; omega))
    · obtain rfl : k = l.length := by omega
      go_wp2
      refine bodyPost_ret (v := .slice (some ⟨g, 0, none⟩) l.length l.length) (by simp [results, Try.results91, go_sem]) rfl ?_
      exact ⟨_, _, rfl, own_exists (by (try simp only [ext_ext]); repeat (first | exact Bel.refl _ | assumption | refine bel_and ?_ _ | refine bel_drews ?_ _ | refine Bel.ext ?_ _ | refine Bel.alloc ?_ _ | refine Bel.drewN ?_ _)) (own3.base_le (by omega)) (Bel.refl _)⟩
end Go.Proofs.Ytkcpnclgcmnlcaa

namespace Go.Pel
open Go Go.RowKit
theorem ids_nodup {l : List Pt} (h : incB l = true) : (l.map Pt.id).Nodup := by
  unfold List.Nodup
  rw [List.pairwise_iff_getElem]
  intro i j hi hj hij
  simp only [List.length_map] at hi hj
  have := inc_lt h hij (List.getElem?_eq_getElem hi) (List.getElem?_eq_getElem hj)
  simp; omega
theorem rank_sorted {l : List Pt} {n d : Int} (h : incB l = true) {i : Nat} {p : Pt} (hp : (sortP n d l)[i]? = some p) : rankR l p n d = i := by
  have hi := idsApart_inc h
  have hpm := sortP_perm n d l
  have hpw := sortP_pairwise (n := n) (d := d) hi (ids_nodup h)
  have e1 : rankR l p n d = rankR (sortP n d l) p n d := ((hpm.filter _).length_eq).symm
  rw [e1]
  have hmem : ∀ a ∈ sortP n d l, a ∈ l := fun a ha => hpm.mem_iff.1 ha
  generalize sortP n d l = s at *
  obtain ⟨hlt, he⟩ := List.getElem?_eq_some_iff.1 hp
  have hsp : s = s.take i ++ p :: s.drop (i + 1) := by
    rw [← he, ← List.drop_eq_getElem_cons hlt, List.take_append_drop]
  have hpl : p ∈ l := hmem p (List.mem_of_getElem? hp)
  have hlen : (s.take i).length = i := by rw [List.length_take]; omega
  rw [hsp] at hpw hmem
  obtain ⟨_, h2, h3⟩ := List.pairwise_append.1 hpw
  rw [List.pairwise_cons] at h2
  have f1 : (s.take i).filter (fun q => (q.id != p.id) && leads q p n d) = s.take i := by
    rw [List.filter_eq_self]
    intro a ha
    have hl := h3 a ha p (by simp)
    have hne : a.id ≠ p.id := by
      intro e
      have hap : a = p := hi a (hmem a (by simp [ha])) p hpl e
      subst hap
      rw [leads_iff] at hl
      omega
    simp [hl, hne]
  have f2 : (p :: s.drop (i + 1)).filter (fun q => (q.id != p.id) && leads q p n d) = [] := by
    rw [List.filter_eq_nil_iff]
    intro a ha
    rcases List.mem_cons.1 ha with rfl | ha
    · simp
    · have hl := h2.1 a ha
      have : leads a p n d = false := by
        rw [← Bool.not_eq_true, leads_iff]
        rw [leads_iff] at hl
        omega
      simp [this]
  unfold rankR
  rw [hsp, List.filter_append, f1, f2, List.append_nil, hlen]
theorem rank_inj {l : List Pt} {n d : Int} (h : incB l = true) {p q : Pt} (hp : p ∈ l) (hq : q ∈ l) (hr : rankR l p n d = rankR l q n d) : p = q := by
  obtain ⟨i, hi⟩ := List.mem_iff_getElem?.1 ((sortP_perm n d l).mem_iff.2 hp)
  obtain ⟨j, hj⟩ := List.mem_iff_getElem?.1 ((sortP_perm n d l).mem_iff.2 hq)
  rw [rank_sorted h hi, rank_sorted h hj] at hr
  subst hr
  rw [hi] at hj; exact Option.some.inj hj
theorem ordK_at {l : List Pt} {n d : Int} (h : incB l = true) : ∀ (k : Nat), k ≤ l.length → ∀ (j : Nat) (p : Pt), j < k → l[j]? = some p → (ordK l n d k)[rankR l p n d]? = some p.id := by
  intro k
  induction k with
  | zero => intro _ j p hj; omega
  | succ k ih =>
    intro hk j p hj hp
    obtain ⟨q, hq⟩ : ∃ q, l[k]? = some q := ⟨_, List.getElem?_eq_getElem (by omega)⟩
    rw [ordK_step hq]
    have hql := rankR_lt (List.mem_of_getElem? hq) n d
    by_cases hjk : j = k
    · subst hjk
      rw [hp] at hq; obtain rfl := Option.some.inj hq
      rw [List.getElem?_set_self (by rw [ordK_len]; exact hql)]
    · have hne : rankR l q n d ≠ rankR l p n d := by
        intro e
        have e1 := rank_inj h (List.mem_of_getElem? hq) (List.mem_of_getElem? hp) e
        subst e1
        have := inc_lt h (show j < k by omega) hp hq
        omega
      rw [List.getElem?_set_ne hne]
      exact ih (by omega) j p (by omega) hp
theorem ordK_sorted {l : List Pt} {n d : Int} (h : incB l = true) : ordK l n d l.length = (sortP n d l).map Pt.id := by
  apply List.ext_getElem?
  intro i
  by_cases hi : i < l.length
  · obtain ⟨p, hp⟩ : ∃ p, (sortP n d l)[i]? = some p := ⟨_, List.getElem?_eq_getElem (by rw [sortP_length]; exact hi)⟩
    have hpl := (sortP_perm n d l).mem_iff.1 (List.mem_of_getElem? hp)
    obtain ⟨j, hj⟩ := List.mem_iff_getElem?.1 hpl
    have := ordK_at (n := n) (d := d) h l.length (Nat.le_refl _) j p (List.getElem?_eq_some_iff.1 hj).1 hj
    rw [rank_sorted h hp] at this
    rw [this]; simp [hp]
  · rw [List.getElem?_eq_none (by rw [ordK_len]; omega), List.getElem?_eq_none (by rw [List.length_map, sortP_length]; omega)]
theorem timed_sorted (l : List Pt) (n d : Int) : (fieldSorted l n d).2 = timed l n d := by
  unfold fieldSorted timed
  by_cases h : fieldChk l ≠ 0
  · rw [if_pos h, if_pos h]
  · rw [if_neg h, if_neg h]
    by_cases h2 : ratioChk n d ≠ 0
    · rw [if_pos h2]
    · rw [if_neg h2]; simp at h2; simp [h2]
theorem timed_zero {l : List Pt} {n d : Int} (h : timed l n d = 0) : fieldChk l = 0 ∧ ratioChk n d = 0 ∧ fieldSorted l n d = (sortP n d l, 0) := by
  unfold timed at h
  by_cases h1 : fieldChk l = 0
  · rw [if_neg (by simpa using h1)] at h
    refine ⟨h1, h, ?_⟩
    unfold fieldSorted; rw [if_neg (by simpa using h1), if_neg (by simpa using h)]
  · rw [if_pos h1] at h; exact absurd h h1
end Go.Pel

namespace Go.Proofs.Ytkcpnclgcmnlcaa
open Go.RowKit Go.Pel
theorem cmpIn_all {l : List Pt} {n d : Int} (h : fieldChk l = 0) (hr : ratioChk n d = 0) (hn : -9223372036854775808 ≤ n ∧ n ≤ 9223372036854775807) (hd : -9223372036854775808 ≤ d ∧ d ≤ 9223372036854775807) : ∀ p ∈ l, ∀ q ∈ l, CmpIn q p n d := by
  obtain ⟨_, hc, _⟩ := fieldChk_zero h
  exact fun p hp q hq => cmpIn_of (hc q hq) (hc p hp) hr hn hd
set_option maxRecDepth 10000 in
set_option maxHeartbeats 2000000 in
theorem refOrder_any (A : Option Addr) (c : Nat) (l : List Pt) (n d : Int) (w : World) (hn : -9223372036854775808 ≤ n ∧ n ≤ 9223372036854775807) (hd : -9223372036854775808 ≤ d ∧ d ≤ 9223372036854775807) (hs : Sl w 3 A l.length c (vp l)) (hl : l.length ≤ 1000000) :
    Calls Try.prog 53 #[.agg #[.slice A l.length c], .agg #[.int .i64 n, .int .i64 d]] w fun e w' => ∃ A' c', e = .returned (.tuple #[.slice A' (fieldOrder l n d).1.length c', .int .i64 (fieldOrder l n d).2]) ∧ ∃ x, w' = ext w x ∧ Own (ext w x) w.heap.size 3 1 A' (fieldOrder l n d).1.length c' (vi (fieldOrder l n d).1) := by
  have q := Lib.hid (fun W hb => timed_any A c l n d W hn hd (hs.bel (w' := W) hb) hl)
  unfold fieldOrder
  rw [timed_sorted]
  by_cases h : timed l n d = 0
  · obtain ⟨h1, h2, h3⟩ := timed_zero h
    have q2 := Lib.hid (fun W hb => ordered_any A c l n d W (hs.bel (w' := W) hb) hl (cmpIn_all h1 h2 hn hd))
    rw [h, h3, if_neg (by decide)]
    rw [h] at q
    simp only [List.length_map, sortP_length]
    rw [ordK_sorted (fieldChk_zero h1).2.2] at q2
    clear h h1 h2 h3 hn hd
    go_enter Try.func53, Try.ntmps53
    go_wp2_with (first | (go_at_call 45; refine (q.out _ (by (try simp only [ext_ext]); repeat (first | exact Bel.refl _ | assumption | refine bel_and ?_ _ | refine bel_drews ?_ _ | refine Bel.ext ?_ _ | refine Bel.alloc ?_ _ | refine Bel.drewN ?_ _))).mono ?_; rintro e _ ⟨rfl, nx, rfl⟩) | (go_at_call 91; refine (q2.out _ (by (try simp only [ext_ext]); repeat (first | exact Bel.refl _ | assumption | refine bel_and ?_ _ | refine bel_drews ?_ _ | refine Bel.ext ?_ _ | refine Bel.alloc ?_ _ | refine Bel.drewN ?_ _))).mono ?_; rintro e _ ⟨A2, c2, rfl, x2, rfl, own2⟩; simp only [ext_ext] at own2))
    go_ret2
    exact ⟨A2, c2, rfl, own_exists (by (try simp only [ext_ext]); repeat (first | exact Bel.refl _ | assumption | refine bel_and ?_ _ | refine bel_drews ?_ _ | refine Bel.ext ?_ _ | refine Bel.alloc ?_ _ | refine Bel.drewN ?_ _)) (own2.base_le (by simp [go_sem]; try omega)) (Bel.refl _)⟩
  · rw [if_pos h]
    obtain ⟨v, hv⟩ : ∃ v, timed l n d = v := ⟨_, rfl⟩
    rw [hv] at q h ⊢
    have h' : (v != 0) = true := by simpa using h
    clear h hn hd hv
    go_enter Try.func53, Try.ntmps53
    go_wp2_with ((go_at_call 45; refine (q.out _ (by (try simp only [ext_ext]); repeat (first | exact Bel.refl _ | assumption | refine bel_and ?_ _ | refine bel_drews ?_ _ | refine Bel.ext ?_ _ | refine Bel.alloc ?_ _ | refine Bel.drewN ?_ _))).mono ?_; rintro e _ ⟨rfl, nx, rfl⟩))
    go_ret2
    exact ⟨none, 0, rfl, own_exists (by (try simp only [ext_ext]); repeat (first | exact Bel.refl _ | assumption | refine bel_and ?_ _ | refine bel_drews ?_ _ | refine Bel.ext ?_ _ | refine Bel.alloc ?_ _ | refine Bel.drewN ?_ _)) (Own.nil_ _ _ _ _) (Bel.refl _)⟩
set_option maxRecDepth 10000 in
set_option maxHeartbeats 2000000 in
theorem refLeader_any (A : Option Addr) (c : Nat) (l : List Pt) (n d : Int) (w : World) (hn : -9223372036854775808 ≤ n ∧ n ≤ 9223372036854775807) (hd : -9223372036854775808 ≤ d ∧ d ≤ 9223372036854775807) (hs : Sl w 3 A l.length c (vp l)) (hl : l.length ≤ 1000000) :
    Calls Try.prog 51 #[.agg #[.slice A l.length c], .agg #[.int .i64 n, .int .i64 d]] w fun e w' => e = .returned (.tuple #[.int .i64 (fieldLeader l n d).1, .int .i64 (fieldLeader l n d).2]) ∧ ∃ x, w' = ext w x := by
  have q := Lib.hid (fun W hb => timed_any A c l n d W hn hd (hs.bel (w' := W) hb) hl)
  unfold fieldLeader
  rw [timed_sorted]
  by_cases h : timed l n d = 0
  · obtain ⟨h1, h2, h3⟩ := timed_zero h
    have q2 := Lib.hid (fun W hb => ordered_any A c l n d W (hs.bel (w' := W) hb) hl (cmpIn_all h1 h2 hn hd))
    rw [h, h3, if_neg (by decide)]
    rw [h] at q
    rw [ordK_sorted (fieldChk_zero h1).2.2] at q2
    have HL := sortP_length n d l
    simp only
    generalize sortP n d l = s at q2 HL ⊢
    clear h h1 h2 h3 hn hd
    cases s with
    | nil =>
      have hz : (l.length : Int) = 0 := by simp at HL; omega
      have hz' : ((l.length : Int) == 0) = true := by simp [hz]
      clear HL
      go_enter Try.func51, Try.ntmps51
      go_wp2_with (first | (go_at_call 45; refine (q.out _ (by (try simp only [ext_ext]); repeat (first | exact Bel.refl _ | assumption | refine bel_and ?_ _ | refine bel_drews ?_ _ | refine Bel.ext ?_ _ | refine Bel.alloc ?_ _ | refine Bel.drewN ?_ _))).mono ?_; rintro e _ ⟨rfl, nx, rfl⟩))
      go_ret2
      exact ⟨rfl, ext_of (by (try simp only [ext_ext]); repeat (first | exact Bel.refl _ | assumption | refine bel_and ?_ _ | refine bel_drews ?_ _ | refine Bel.ext ?_ _ | refine Bel.alloc ?_ _ | refine Bel.drewN ?_ _))⟩
    | cons p r =>
      have hlt : (0 : Int) < (l.length : Int) := by simp at HL; omega
      have hz' : ((l.length : Int) == 0) = false := by rw [beq_eq_false_iff_ne]; omega
      clear HL
      go_enter Try.func51, Try.ntmps51
      go_wp2_with (first | (go_at_call 45; refine (q.out _ (by (try simp only [ext_ext]); repeat (first | exact Bel.refl _ | assumption | refine bel_and ?_ _ | refine bel_drews ?_ _ | refine Bel.ext ?_ _ | refine Bel.alloc ?_ _ | refine Bel.drewN ?_ _))).mono ?_; rintro e _ ⟨rfl, nx, rfl⟩) | (go_at_call 91; refine (q2.out _ (by (try simp only [ext_ext]); repeat (first | exact Bel.refl _ | assumption | refine bel_and ?_ _ | refine bel_drews ?_ _ | refine Bel.ext ?_ _ | refine Bel.alloc ?_ _ | refine Bel.drewN ?_ _))).mono ?_; rintro e _ ⟨A2, c2, rfl, x2, rfl, own2⟩; simp only [ext_ext] at own2; have s2 := own2.sl; obtain ⟨b, o, rfl, hb2⟩ := s2.at_ (by omega); have r0 : World.cell? _ ⟨b, o, none⟩ = some (.int .i64 p.id) := (by have := sl_int s2 (k := 0) (x := p.id) rfl; rwa [Nat.add_zero] at this); clear own2 s2))
      go_ret2
      exact ⟨rfl, ext_of (by (try simp only [ext_ext]); repeat (first | exact Bel.refl _ | assumption | refine bel_and ?_ _ | refine bel_drews ?_ _ | refine Bel.ext ?_ _ | refine Bel.alloc ?_ _ | refine Bel.drewN ?_ _))⟩
  · rw [if_pos h]
    obtain ⟨v, hv⟩ : ∃ v, timed l n d = v := ⟨_, rfl⟩
    rw [hv] at q h ⊢
    have h' : (v != 0) = true := by simpa using h
    clear h hn hd hv
    go_enter Try.func51, Try.ntmps51
    go_wp2_with ((go_at_call 45; refine (q.out _ (by (try simp only [ext_ext]); repeat (first | exact Bel.refl _ | assumption | refine bel_and ?_ _ | refine bel_drews ?_ _ | refine Bel.ext ?_ _ | refine Bel.alloc ?_ _ | refine Bel.drewN ?_ _))).mono ?_; rintro e _ ⟨rfl, nx, rfl⟩))
    go_ret2
    exact ⟨rfl, ext_of (by (try simp only [ext_ext]); repeat (first | exact Bel.refl _ | assumption | refine bel_and ?_ _ | refine bel_drews ?_ _ | refine Bel.ext ?_ _ | refine Bel.alloc ?_ _ | refine Bel.drewN ?_ _))⟩
end Go.Proofs.Ytkcpnclgcmnlcaa

namespace Go.Pel
open Go Go.RowKit
theorem ix_rank {l : List Pt} {n d : Int} (h : incB l = true) {p : Pt} (hp : p ∈ l) : ixI ((sortP n d l).map Pt.id) p.id = rankR l p n d := by
  obtain ⟨i, hi⟩ := List.mem_iff_getElem?.1 ((sortP_perm n d l).mem_iff.2 hp)
  rw [rank_sorted h hi]
  refine ixI_hit (by simp [hi]) ?_
  intro j y hj hy he
  rw [List.getElem?_map] at hy
  obtain ⟨q, hq, rfl⟩ := Option.map_eq_some_iff.1 hy
  have hql := (sortP_perm n d l).mem_iff.1 (List.mem_of_getElem? hq)
  have e1 := idsApart_inc h q hql p hp he
  subst e1
  have := rank_sorted h hi
  rw [rank_sorted h hq] at this
  omega
theorem ix_none {l : List Pt} {n d id : Int} (h : hasB l id = false) : ixI ((sortP n d l).map Pt.id) id = -1 := by
  refine ixI_miss ?_
  intro j y hy he
  rw [List.getElem?_map] at hy
  obtain ⟨q, hq, rfl⟩ := Option.map_eq_some_iff.1 hy
  have hql := (sortP_perm n d l).mem_iff.1 (List.mem_of_getElem? hq)
  unfold hasB at h
  rw [List.any_eq_false] at h
  exact h q hql (by simpa using he)
end Go.Pel
namespace Go.Proofs.Ytkcpnclgcmnlcaa
open Go.RowKit Go.Pel
theorem at03_lit (A : Option Addr) (c : Nat) (l : List Pt) (id v : Int) (hv : atI l id = v) (w : World) (hs : Sl w 3 A l.length c (vp l)) (hl : l.length ≤ 1000000) :
    Calls Try.prog 66 #[.agg #[.slice A l.length c], .int .i64 id] w fun e w' => e = .returned (.int .i64 v) ∧ ∃ x, w' = ext w x := hv ▸ at03_any A c l id w hs hl
set_option maxRecDepth 10000 in
set_option maxHeartbeats 2000000 in
theorem refRank_any (A : Option Addr) (c : Nat) (l : List Pt) (id n d : Int) (w : World) (hn : -9223372036854775808 ≤ n ∧ n ≤ 9223372036854775807) (hd : -9223372036854775808 ≤ d ∧ d ≤ 9223372036854775807) (hs : Sl w 3 A l.length c (vp l)) (hl : l.length ≤ 1000000) :
    Calls Try.prog 55 #[.agg #[.slice A l.length c], .int .i64 id, .agg #[.int .i64 n, .int .i64 d]] w fun e w' => e = .returned (.tuple #[.int .i64 (fieldRank l id n d).1, .int .i64 (fieldRank l id n d).2]) ∧ ∃ x, w' = ext w x := by
  have q := Lib.hid (fun W hb => timed_any A c l n d W hn hd (hs.bel (w' := W) hb) hl)
  unfold fieldRank
  by_cases h : timed l n d = 0
  · obtain ⟨h1, h2, h3⟩ := timed_zero h
    have hinc := (fieldChk_zero h1).2.2
    have hci := cmpIn_all h1 h2 hn hd
    have hFO : fieldOrder l n d = ((sortP n d l).map Pt.id, 0) := by unfold fieldOrder; rw [h3]; exact if_neg (fun h => h rfl)
    rw [hFO]
    rw [h] at q
    simp only
    rw [if_neg (fun h => h rfl)]
    cases hb : hasB l id with
    | false =>
      rw [ix_none hb, if_pos (by decide)]
      have q2 := Lib.hid (fun W hb' => at03_lit A c l id (-1) (atI_no hb) W (hs.bel (w' := W) hb') hl)
      clear h h1 h2 h3 hn hd hb hinc hci
      go_enter Try.func55, Try.ntmps55
      go_wp2_with (first | (go_at_call 45; refine (q.out _ (by (try simp only [ext_ext]); repeat (first | exact Bel.refl _ | assumption | refine bel_and ?_ _ | refine bel_drews ?_ _ | refine Bel.ext ?_ _ | refine Bel.alloc ?_ _ | refine Bel.drewN ?_ _))).mono ?_; rintro e _ ⟨rfl, nx, rfl⟩) | (go_at_call 66; refine (q2.out _ (by (try simp only [ext_ext]); repeat (first | exact Bel.refl _ | assumption | refine bel_and ?_ _ | refine bel_drews ?_ _ | refine Bel.ext ?_ _ | refine Bel.alloc ?_ _ | refine Bel.drewN ?_ _))).mono ?_; rintro e _ ⟨rfl, nx, rfl⟩))
      go_ret2
      exact ⟨rfl, ext_of (by (try simp only [ext_ext]); repeat (first | exact Bel.refl _ | assumption | refine bel_and ?_ _ | refine bel_drews ?_ _ | refine Bel.ext ?_ _ | refine Bel.alloc ?_ _ | refine Bel.drewN ?_ _))⟩
    | true =>
      obtain ⟨h4, p, hp, h5⟩ := atI_low hinc hb
      have hpl := List.mem_of_getElem? hp
      rw [← h5, ix_rank hinc hpl, h5, if_neg (by omega)]
      have q2 := Lib.hid (fun W hb' => at03_lit A c l id (lowB l id) h4 W (hs.bel (w' := W) hb') hl)
      have hlt := (List.getElem?_eq_some_iff.1 hp).1
      obtain ⟨k, hk⟩ : ∃ k, lowB l id = k := ⟨_, rfl⟩
      rw [hk] at q2 hp hlt
      obtain ⟨R, hR⟩ : ∃ R, rankR l p n d = R := ⟨_, rfl⟩
      have q3 := Lib.hid (fun W hb' => ranked_lit A c l p n d R hR W (hs.bel (w' := W) hb') hl (hci p hpl))
      rw [hR]
      obtain ⟨b, o, rfl, hb2⟩ := hs.at_ (by omega)
      obtain ⟨r0, r1, r2⟩ := pt_at hs hp
      have hlt' : (k : Int) < (l.length : Int) := by omega
      clear h h1 h2 h3 hn hd hb hinc hci h4 h5 hpl hp hk hR
      go_enter Try.func55, Try.ntmps55
      go_wp2_with (first | (go_at_call 45; refine (q.out _ (by (try simp only [ext_ext]); repeat (first | exact Bel.refl _ | assumption | refine bel_and ?_ _ | refine bel_drews ?_ _ | refine Bel.ext ?_ _ | refine Bel.alloc ?_ _ | refine Bel.drewN ?_ _))).mono ?_; rintro e _ ⟨rfl, nx, rfl⟩) | (go_at_call 66; refine (q2.out _ (by (try simp only [ext_ext]); repeat (first | exact Bel.refl _ | assumption | refine bel_and ?_ _ | refine bel_drews ?_ _ | refine Bel.ext ?_ _ | refine Bel.alloc ?_ _ | refine Bel.drewN ?_ _))).mono ?_; rintro e _ ⟨rfl, nx, rfl⟩))
      ((first | refine RegC.wp_region_ext1 (by kernel_rfl) (by kernel_rfl) ?_ | refine RegC.wp_region_ext0 (by kernel_rfl) (by kernel_rfl) ?_); (repeat (any_goals (first | go_big_quiet_step ((go_at_call 93; with_reducible first | exact Calls.ext_of1 (q3.out _ (by (try simp only [ext_ext]); repeat (first | exact Bel.refl _ | assumption | refine bel_and ?_ _ | refine bel_drews ?_ _ | refine Bel.ext ?_ _ | refine Bel.alloc ?_ _ | refine Bel.drewN ?_ _))) | exact Calls.ext_of (q3.out _ (by (try simp only [ext_ext]); repeat (first | exact Bel.refl _ | assumption | refine bel_and ?_ _ | refine bel_drews ?_ _ | refine Bel.ext ?_ _ | refine Bel.alloc ?_ _ | refine Bel.drewN ?_ _))))) | (refine RegC.wpQuiet_split rfl rfl (fun hb => ?_) (fun hb => ?_) <;> simp only [hb])))); all_goals (refine wpQuiet_nil ?_; rintro _ ⟨nq, rfl⟩))
      go_wp2
      go_ret2
      exact ⟨rfl, ext_of (by (try simp only [ext_ext]); repeat (first | exact Bel.refl _ | assumption | refine bel_and ?_ _ | refine bel_drews ?_ _ | refine Bel.ext ?_ _ | refine Bel.alloc ?_ _ | refine Bel.drewN ?_ _))⟩
  · have hFO : fieldOrder l n d = ([], timed l n d) := by unfold fieldOrder; rw [timed_sorted, if_pos h]
    rw [hFO]
    obtain ⟨v, hv⟩ : ∃ v, timed l n d = v := ⟨_, rfl⟩
    rw [hv] at q h ⊢
    simp only
    rw [if_pos h]
    have h' : (v != 0) = true := by simpa using h
    clear h hn hd hv
    go_enter Try.func55, Try.ntmps55
    go_wp2_with ((go_at_call 45; refine (q.out _ (by (try simp only [ext_ext]); repeat (first | exact Bel.refl _ | assumption | refine bel_and ?_ _ | refine bel_drews ?_ _ | refine Bel.ext ?_ _ | refine Bel.alloc ?_ _ | refine Bel.drewN ?_ _))).mono ?_; rintro e _ ⟨rfl, nx, rfl⟩))
    go_ret2
    exact ⟨rfl, ext_of (by (try simp only [ext_ext]); repeat (first | exact Bel.refl _ | assumption | refine bel_and ?_ _ | refine bel_drews ?_ _ | refine Bel.ext ?_ _ | refine Bel.alloc ?_ _ | refine Bel.drewN ?_ _))⟩
end Go.Proofs.Ytkcpnclgcmnlcaa

namespace Go.Pel
open Go Go.RowKit
theorem leads_asymm {p q : Pt} {n d : Int} (h : leads p q n d = true) (k : leads q p n d = true) : False := by
  rw [leads_iff] at h k; omega
theorem incB_pw (l : List Pt) : incB l = true ↔ l.Pairwise fun p q => p.id < q.id := by
  constructor
  · intro h; rw [List.pairwise_iff_getElem]; intro i j hi hj hij
    exact inc_lt h hij (List.getElem?_eq_getElem hi) (List.getElem?_eq_getElem hj)
  · intro h; rw [incB_iff]; intro i p q hp hq
    obtain ⟨h1, e1⟩ := List.getElem?_eq_some_iff.1 hp
    obtain ⟨h2, e2⟩ := List.getElem?_eq_some_iff.1 hq
    rw [← e1, ← e2]; exact List.pairwise_iff_getElem.1 h i (i + 1) h1 h2 (by omega)
theorem chk_ok {l : List Pt} : fieldChk l = 0 ↔ l.length ≤ 64 ∧ (∀ p ∈ l, p.chk = 0) ∧ l.Pairwise fun p q => p.id < q.id := by
  rw [← incB_pw]
  exact ⟨fieldChk_zero, fun h => fieldChk_ok h.1 h.2.1 h.2.2⟩
theorem sub_ok {l m : List Pt} (hs : m.Sublist l) (h : fieldChk l = 0) : fieldChk m = 0 := by
  rw [chk_ok] at h ⊢
  exact ⟨Nat.le_trans hs.length_le h.1, fun p hp => h.2.1 p (hs.subset hp), h.2.2.sublist hs⟩
theorem sorted_only {l s : List Pt} {n d : Int} (hinc : incB l = true) (hp : s.Perm l) (hs : s.Pairwise fun p q => leads p q n d = true) : sortP n d l = s := by
  refine List.Perm.eq_of_pairwise ?_ (sortP_pairwise (idsApart_inc hinc) (ids_nodup hinc)) hs ((sortP_perm n d l).trans hp.symm)
  intro a b _ _ h k
  exact (leads_asymm h k).elim
theorem order_ok {l : List Pt} {n d : Int} (h : timed l n d = 0) : fieldOrder l n d = ((sortP n d l).map Pt.id, 0) := by
  obtain ⟨_, _, h3⟩ := timed_zero h
  unfold fieldOrder; rw [h3]; exact if_neg (fun h => h rfl)
theorem order_only {l s : List Pt} {n d : Int} (h : timed l n d = 0) (hp : s.Perm l) (hs : s.Pairwise fun p q => leads p q n d = true) : fieldOrder l n d = (s.map Pt.id, 0) := by
  rw [order_ok h, sorted_only (fieldChk_zero (timed_zero h).1).2.2 hp hs]
theorem sorted_mem {l : List Pt} {n d : Int} {i : Nat} {p : Pt} (hp : (sortP n d l)[i]? = some p) : p ∈ l := (sortP_perm n d l).mem_iff.1 (List.mem_of_getElem? hp)
theorem rank_at {l : List Pt} {n d : Int} (h : timed l n d = 0) {i : Nat} {p : Pt} (hp : (sortP n d l)[i]? = some p) : fieldRank l p.id n d = ((i : Int), 0) := by
  have hinc := (fieldChk_zero (timed_zero h).1).2.2
  unfold fieldRank
  rw [order_ok h]
  simp only
  rw [if_neg (fun h => h rfl), ix_rank hinc (sorted_mem hp), rank_sorted hinc hp, if_neg (by omega)]
theorem rank_none {l : List Pt} {n d id : Int} (h : timed l n d = 0) (hb : hasB l id = false) : fieldRank l id n d = (0, 6) := by
  unfold fieldRank
  rw [order_ok h]
  simp only
  rw [if_neg (fun h => h rfl), ix_none hb, if_pos (by decide)]
theorem hasB_mem {l : List Pt} {p : Pt} (h : p ∈ l) : hasB l p.id = true := by
  unfold hasB; rw [List.any_eq_true]; exact ⟨p, h, by simp⟩
theorem hasB_ex {l : List Pt} {id : Int} (h : hasB l id = true) : ∃ p, p ∈ l ∧ p.id = id := by
  unfold hasB at h; rw [List.any_eq_true] at h
  obtain ⟨p, hp, he⟩ := h; exact ⟨p, hp, by simpa using he⟩
theorem low_at {l : List Pt} (h : incB l = true) {k : Nat} {p : Pt} (hk : l[k]? = some p) : lowB l p.id = k := by
  have hkl := (List.getElem?_eq_some_iff.1 hk).1
  refine lowB_of (by omega) (fun i q hi hq => inc_lt h hi hq hk) ?_
  intro q hq
  rw [hk] at hq; obtain rfl := Option.some.inj hq; exact Int.le_refl _
theorem find_at {l : List Pt} (h : fieldChk l = 0) {k : Nat} {p : Pt} (hk : l[k]? = some p) : fieldFind l p.id = (p, 0) := by
  have hinc := (fieldChk_zero h).2.2
  unfold fieldFind
  rw [if_neg (by simpa using h), if_pos (hasB_mem (List.mem_of_getElem? hk)), low_at hinc hk, List.getD_eq_getElem?_getD, hk]; rfl
theorem find_mem {l : List Pt} (h : fieldChk l = 0) {p : Pt} (hp : p ∈ l) : fieldFind l p.id = (p, 0) := by
  obtain ⟨k, hk⟩ := List.mem_iff_getElem?.1 hp
  exact find_at h hk
theorem find_none {l : List Pt} (h : fieldChk l = 0) {id : Int} (hb : hasB l id = false) : fieldFind l id = (Pt.zero, 6) := by
  unfold fieldFind; rw [if_neg (by simpa using h), hb]; rfl
theorem leader_at {l : List Pt} {n d : Int} (h : timed l n d = 0) {p : Pt} (hp : (sortP n d l)[0]? = some p) : fieldLeader l n d = (p.id, 0) := by
  obtain ⟨_, _, h3⟩ := timed_zero h
  unfold fieldLeader; rw [h3]; simp only
  rw [if_neg (fun h => h rfl)]
  cases hs : sortP n d l with
  | nil => rw [hs] at hp; simp at hp
  | cons a r => rw [hs] at hp; simp at hp; rw [hp]
theorem ahead_at {l : List Pt} {n d : Int} (h : timed l n d = 0) {i j : Nat} (hij : i < j) {p q : Pt} (hp : (sortP n d l)[i]? = some p) (hq : (sortP n d l)[j]? = some q) : aheadV p q n d = (true, 0) := by
  obtain ⟨h1, h2, h3⟩ := timed_zero h
  obtain ⟨_, hc, hinc⟩ := fieldChk_zero h1
  have hpw := sortP_pairwise (n := n) (d := d) (idsApart_inc hinc) (ids_nodup hinc)
  obtain ⟨k1, e1⟩ := List.getElem?_eq_some_iff.1 hp
  obtain ⟨k2, e2⟩ := List.getElem?_eq_some_iff.1 hq
  have hl := List.pairwise_iff_getElem.1 hpw i j k1 k2 hij
  rw [e1, e2] at hl
  have hne : p.id ≠ q.id := by
    intro e
    have := idsApart_inc hinc p (sorted_mem hp) q (sorted_mem hq) e
    subst this
    exact leads_asymm hl hl
  unfold aheadV
  rw [twoChk_ok ⟨hc p (sorted_mem hp), hc q (sorted_mem hq), h2⟩ hne, if_pos rfl, hl]
/-- without one -/
theorem take_ok {l : List Pt} (h : fieldChk l = 0) {k : Nat} {p : Pt} (hk : l[k]? = some p) : fieldTake l p.id = (l.eraseIdx k, 0) := by
  have hinc := (fieldChk_zero h).2.2
  unfold fieldTake
  rw [if_neg (by simpa using h), if_pos (hasB_mem (List.mem_of_getElem? hk)), low_at hinc hk, List.eraseIdx_eq_take_drop_succ]
theorem take_none {l : List Pt} (h : fieldChk l = 0) {id : Int} (hb : hasB l id = false) : fieldTake l id = ([], 6) := by
  unfold fieldTake; rw [if_neg (by simpa using h), hb]; rfl
theorem erase_perm {l : List Pt} {k : Nat} {p : Pt} (hk : l[k]? = some p) : (p :: l.eraseIdx k).Perm l := by
  obtain ⟨h1, e1⟩ := List.getElem?_eq_some_iff.1 hk
  rw [List.eraseIdx_eq_take_drop_succ]
  have e2 : l = l.take k ++ p :: l.drop (k + 1) := by rw [← e1, ← List.drop_eq_getElem_cons h1, List.take_append_drop]
  conv => rhs; rw [e2]
  exact List.perm_middle.symm
theorem sorted_less {l : List Pt} {n d : Int} (h : incB l = true) {k i : Nat} {p : Pt} (hk : l[k]? = some p) (hi : (sortP n d l)[i]? = some p) : sortP n d (l.eraseIdx k) = (sortP n d l).eraseIdx i := by
  have hl : incB (l.eraseIdx k) = true := by rw [incB_pw] at h ⊢; exact h.sublist (List.eraseIdx_sublist l k)
  refine sorted_only hl ?_ ((sortP_pairwise (idsApart_inc h) (ids_nodup h)).sublist (List.eraseIdx_sublist _ i))
  have h1 := (erase_perm hi).trans ((sortP_perm n d l).trans (erase_perm hk).symm)
  exact h1.cons_inv
theorem order_less {l : List Pt} {n d : Int} (h : timed l n d = 0) {k i : Nat} {p : Pt} (hk : l[k]? = some p) (hi : (sortP n d l)[i]? = some p) : fieldOrder (l.eraseIdx k) n d = (((sortP n d l).map Pt.id).eraseIdx i, 0) := by
  obtain ⟨h1, h2, _⟩ := timed_zero h
  have hinc := (fieldChk_zero h1).2.2
  have ht : timed (l.eraseIdx k) n d = 0 := by
    unfold timed; rw [sub_ok (List.eraseIdx_sublist l k) h1]; simpa using h2
  rw [order_ok ht, sorted_less hinc hk hi]
  simp [List.eraseIdx_eq_take_drop_succ]
/-- with another one in a point's place -/
theorem set_ok {l : List Pt} (h : fieldChk l = 0) {k : Nat} {p q : Pt} (hk : l[k]? = some q) (hp : p.chk = 0) (he : p.id = q.id) : fieldChk (l.set k p) = 0 := by
  have hinc := (fieldChk_zero h).2.2
  rw [chk_ok] at h ⊢
  refine ⟨by simpa using h.1, ?_, ?_⟩
  · intro x hx
    rcases List.mem_or_eq_of_mem_set hx with hx | rfl
    · exact h.2.1 x hx
    · exact hp
  · have e : (l.set k p).map Pt.id = l.map Pt.id := by
      rw [List.map_set, he]
      apply List.ext_getElem?; intro j
      rw [List.getElem?_set]
      split
      · rename_i hj; subst hj
        split
        · simp [hk]
        · rename_i hj; simp at hj; rw [List.getElem?_map, List.getElem?_eq_none hj]; rfl
      · rfl
    have := h.2.2
    rw [← List.pairwise_map (f := Pt.id) (R := fun a b => a < b)] at this ⊢
    rw [e]; exact this
theorem change_ok {l : List Pt} (h : fieldChk l = 0) {k : Nat} {p q : Pt} (hk : l[k]? = some q) (hp : p.chk = 0) (he : p.id = q.id) : fieldChange l p = (l.set k p, 0) := by
  have hinc := (fieldChk_zero h).2.2
  unfold fieldChange
  rw [if_neg (by simpa using h), if_neg (by simpa using hp), he, if_pos (hasB_mem (List.mem_of_getElem? hk)), low_at hinc hk]
theorem put_twice {l : List Pt} (h : fieldChk l = 0) {p q : Pt} (hq : q ∈ l) (hp : p.chk = 0) (he : p.id = q.id) : fieldPut l p = ([], 14) := by
  unfold fieldPut
  rw [if_neg (by simpa using h), if_neg (by simpa using hp), he, if_pos (hasB_mem hq)]
theorem set_get {l : List Pt} {k : Nat} {p q : Pt} (hk : l[k]? = some q) : (l.set k p)[k]? = some p := by
  rw [List.getElem?_set_self (List.getElem?_eq_some_iff.1 hk).1]
theorem set_back {l : List Pt} {k : Nat} {p q : Pt} (hk : l[k]? = some q) : (l.set k p).set k q = l := by
  rw [List.set_set]
  apply List.ext_getElem?; intro j
  rw [List.getElem?_set]
  split
  · rename_i hj; subst hj
    rw [if_pos (List.getElem?_eq_some_iff.1 hk).1, hk]
  · rfl
/-- with one more -/
def insP (l : List Pt) (p : Pt) : List Pt := l.take (lowB l p.id) ++ p :: l.drop (lowB l p.id)
theorem ins_len (l : List Pt) (p : Pt) : (insP l p).length = l.length + 1 := by
  have := lowB_le l p.id
  unfold insP; simp only [List.length_append, List.length_take, List.length_cons, List.length_drop]; omega
theorem ins_get (l : List Pt) (p : Pt) : (insP l p)[lowB l p.id]? = some p := by
  have := lowB_le l p.id
  unfold insP
  rw [List.getElem?_append_right (by rw [List.length_take]; omega), List.length_take, Nat.min_eq_left this, Nat.sub_self]; rfl
theorem ins_back (l : List Pt) (p : Pt) : (insP l p).eraseIdx (lowB l p.id) = l := by
  have := lowB_le l p.id
  have hl : (l.take (lowB l p.id)).length = lowB l p.id := by rw [List.length_take]; omega
  unfold insP
  rw [List.eraseIdx_append_of_length_le (by omega), hl, Nat.sub_self]
  simp
theorem ins_ok {l : List Pt} (h : fieldChk l = 0) {p : Pt} (hp : p.chk = 0) (hb : hasB l p.id = false) (hl : l.length ≠ 64) : fieldChk (insP l p) = 0 := by
  have hinc := (fieldChk_zero h).2.2
  rw [chk_ok] at h ⊢
  refine ⟨by rw [ins_len]; omega, ?_, ?_⟩
  · intro x hx
    unfold insP at hx
    rcases List.mem_append.1 hx with hx | hx
    · exact h.2.1 x (List.mem_of_mem_take hx)
    · rcases List.mem_cons.1 hx with rfl | hx
      · exact hp
      · exact h.2.1 x (List.mem_of_mem_drop hx)
  · have hne : ∀ q ∈ l, q.id ≠ p.id := by
      intro q hq e
      unfold hasB at hb; rw [List.any_eq_false] at hb
      exact hb q hq (by simpa using e)
    have h1 : ∀ a ∈ l.take (lowB l p.id), a.id < p.id := by
      intro a ha
      obtain ⟨i, hi⟩ := List.mem_iff_getElem?.1 ha
      rw [List.getElem?_take] at hi
      split at hi
      · exact lowB_lt ‹_› hi
      · cases hi
    have h2 : ∀ b ∈ l.drop (lowB l p.id), p.id < b.id := by
      intro b hb'
      have hbl := List.mem_of_mem_drop hb'
      have := hne b hbl
      obtain ⟨i, hi⟩ := List.mem_iff_getElem?.1 hb'
      rw [List.getElem?_drop] at hi
      have hk : lowB l p.id < l.length := by have := (List.getElem?_eq_some_iff.1 hi).1; omega
      have hge := lowB_ge (l := l) (id := p.id) (List.getElem?_eq_getElem hk)
      rcases Nat.eq_zero_or_pos i with rfl | hpos
      · rw [Nat.add_zero, List.getElem?_eq_getElem hk] at hi
        obtain rfl := Option.some.inj hi
        omega
      · have := inc_lt hinc (show lowB l p.id < lowB l p.id + i by omega) (List.getElem?_eq_getElem hk) hi
        omega
    unfold insP
    rw [List.pairwise_append]
    refine ⟨h.2.2.sublist (List.take_sublist _ _), ?_, ?_⟩
    · rw [List.pairwise_cons]
      exact ⟨h2, h.2.2.sublist (List.drop_sublist _ _)⟩
    · intro a ha b hb'
      have := h1 a ha
      rcases List.mem_cons.1 hb' with rfl | hb'
      · exact this
      · have := h2 b hb'; omega
theorem put_ok {l : List Pt} (h : fieldChk l = 0) {p : Pt} (hp : p.chk = 0) (hb : hasB l p.id = false) (hl : l.length ≠ 64) : fieldPut l p = (insP l p, 0) := by
  unfold fieldPut
  rw [if_neg (by simpa using h), if_neg (by simpa using hp), hb, if_neg hl]; rfl
theorem put_full {l : List Pt} (h : fieldChk l = 0) {p : Pt} (hp : p.chk = 0) (hb : hasB l p.id = false) (hl : l.length = 64) : fieldPut l p = ([], 18) := by
  unfold fieldPut
  rw [if_neg (by simpa using h), if_neg (by simpa using hp), hb, if_pos hl]; rfl
/-- the chapter's field -/
def givenF : List Pt := [⟨1, 0, 2⟩, ⟨2, 6, -1⟩, ⟨5, 0, 0⟩]
theorem given_chk : fieldChk givenF = 0 := by decide
theorem given_timed (n : Int) (h : -9223372036854775807 ≤ n) : timed givenF n 1 = 0 := by
  unfold timed; rw [given_chk, if_neg (by decide)]
  exact ratioChk_one (by decide) (by omega) (by show Nat.gcd 1 _ = 1; exact Nat.gcd_one_left _)
theorem given0 : fieldOrder givenF 0 1 = ([2, 1, 5], 0) := order_only (s := [⟨2, 6, -1⟩, ⟨1, 0, 2⟩, ⟨5, 0, 0⟩]) (given_timed 0 (by decide)) (by decide) (by decide)
theorem given2 : fieldOrder givenF 2 1 = ([1, 2, 5], 0) := order_only (s := [⟨1, 0, 2⟩, ⟨2, 6, -1⟩, ⟨5, 0, 0⟩]) (given_timed 2 (by decide)) (by decide) (by decide)
theorem given7 : fieldOrder givenF 7 1 = ([1, 5, 2], 0) := order_only (s := [⟨1, 0, 2⟩, ⟨5, 0, 0⟩, ⟨2, 6, -1⟩]) (given_timed 7 (by decide)) (by decide) (by decide)
theorem given_rank7 : fieldRank givenF 5 7 1 = (1, 0) := by
  unfold fieldRank; rw [given7]; decide
end Go.Pel

namespace Go.Proofs.Ytkcpnclgcmnlcaa
open Go.RowKit Go.Pel
section
variable (A : Option Addr) (c : Nat) (l : List Pt)
theorem fcheck_lit (v : Int) (h : fieldChk l = v) (w : World) (hs : Sl w 3 A l.length c (vp l)) :
    Calls Try.prog 25 #[.agg #[.slice A l.length c]] w fun e w' => e = .returned (.int .i64 v) ∧ ∃ x, w' = ext w x := h ▸ fieldCheck_any A c l w hs
theorem find_lit (id : Int) (p : Pt) (v : Int) (h : fieldFind l id = (p, v)) (w : World) (hs : Sl w 3 A l.length c (vp l)) :
    Calls Try.prog 17 #[.agg #[.slice A l.length c], .int .i64 id] w fun e w' => e = .returned (.tuple #[.agg #[.int .i64 p.id, .int .i64 p.a, .int .i64 p.b], .int .i64 v]) ∧ ∃ x, w' = ext w x := by
  have := fieldFind_any A c l id w hs
  rw [h] at this; exact this
theorem put_lit (p : Pt) (L : List Pt) (v : Int) (h : fieldPut l p = (L, v)) (w : World) (hs : Sl w 3 A l.length c (vp l)) (hn : A = none → c = 0) :
    Calls Try.prog 19 #[.agg #[.slice A l.length c], .agg #[.int .i64 p.id, .int .i64 p.a, .int .i64 p.b]] w fun e w' => ∃ A' c', e = .returned (.tuple #[.agg #[.slice A' L.length c'], .int .i64 v]) ∧ ∃ x, w' = ext w x ∧ Own (ext w x) w.heap.size 26 3 A' L.length c' (vp L) := by
  have := fieldPut_any A c l p w hs hn
  rw [h] at this; exact this
theorem take_lit (id : Int) (L : List Pt) (v : Int) (h : fieldTake l id = (L, v)) (w : World) (hs : Sl w 3 A l.length c (vp l)) (hn : A = none → c = 0) :
    Calls Try.prog 21 #[.agg #[.slice A l.length c], .int .i64 id] w fun e w' => ∃ A' c', e = .returned (.tuple #[.agg #[.slice A' L.length c'], .int .i64 v]) ∧ ∃ x, w' = ext w x ∧ Own (ext w x) w.heap.size 26 3 A' L.length c' (vp L) := by
  have := fieldTake_any A c l id w hs hn
  rw [h] at this; exact this
theorem change_lit (p : Pt) (L : List Pt) (v : Int) (h : fieldChange l p = (L, v)) (w : World) (hs : Sl w 3 A l.length c (vp l)) (hn : A = none → c = 0) :
    Calls Try.prog 23 #[.agg #[.slice A l.length c], .agg #[.int .i64 p.id, .int .i64 p.a, .int .i64 p.b]] w fun e w' => ∃ A' c', e = .returned (.tuple #[.agg #[.slice A' L.length c'], .int .i64 v]) ∧ ∃ x, w' = ext w x ∧ Own (ext w x) w.heap.size 26 3 A' L.length c' (vp L) := by
  have := fieldChange_any A c l p w hs hn
  rw [h] at this; exact this
theorem leader_lit (n d i v : Int) (h : fieldLeader l n d = (i, v)) (w : World) (hn : -9223372036854775808 ≤ n ∧ n ≤ 9223372036854775807) (hd : -9223372036854775808 ≤ d ∧ d ≤ 9223372036854775807) (hs : Sl w 3 A l.length c (vp l)) (hn0 : A = none → c = 0) :
    Calls Try.prog 50 #[.agg #[.slice A l.length c], .agg #[.int .i64 n, .int .i64 d]] w fun e w' => e = .returned (.tuple #[.int .i64 i, .int .i64 v]) ∧ ∃ x, w' = ext w x := by
  have := leader_any A c l n d w hn hd hs hn0
  rw [h] at this; exact this
theorem order_lit (n d : Int) (L : List Int) (v : Int) (h : fieldOrder l n d = (L, v)) (w : World) (hn : -9223372036854775808 ≤ n ∧ n ≤ 9223372036854775807) (hd : -9223372036854775808 ≤ d ∧ d ≤ 9223372036854775807) (hs : Sl w 3 A l.length c (vp l)) (hn0 : A = none → c = 0) (hl : l.length ≤ 1000000) :
    Calls Try.prog 52 #[.agg #[.slice A l.length c], .agg #[.int .i64 n, .int .i64 d]] w fun e w' => ∃ A' c', e = .returned (.tuple #[.slice A' L.length c', .int .i64 v]) ∧ ∃ x, w' = ext w x ∧ Own (ext w x) w.heap.size 3 1 A' L.length c' (vi L) := by
  have := order_any A c l n d w hn hd hs hn0 hl
  rw [h] at this; exact this
theorem rank_lit (id n d r v : Int) (h : fieldRank l id n d = (r, v)) (w : World) (hn : -9223372036854775808 ≤ n ∧ n ≤ 9223372036854775807) (hd : -9223372036854775808 ≤ d ∧ d ≤ 9223372036854775807) (hs : Sl w 3 A l.length c (vp l)) (hn0 : A = none → c = 0) (hl : l.length ≤ 1000000) :
    Calls Try.prog 54 #[.agg #[.slice A l.length c], .int .i64 id, .agg #[.int .i64 n, .int .i64 d]] w fun e w' => e = .returned (.tuple #[.int .i64 r, .int .i64 v]) ∧ ∃ x, w' = ext w x := by
  have := rank_any A c l id n d w hn hd hs hn0 hl
  rw [h] at this; exact this
end
theorem ahead_lit (p q : Pt) (n d : Int) (b : Bool) (v : Int) (h : aheadV p q n d = (b, v)) (w : World) (hn : -9223372036854775808 ≤ n ∧ n ≤ 9223372036854775807) (hd : -9223372036854775808 ≤ d ∧ d ≤ 9223372036854775807) :
    Calls Try.prog 58 #[.agg #[.int .i64 p.id, .int .i64 p.a, .int .i64 p.b], .agg #[.int .i64 q.id, .int .i64 q.a, .int .i64 q.b], .agg #[.int .i64 n, .int .i64 d]] w fun e w' => e = .returned (.tuple #[.bool b, .int .i64 v]) ∧ ∃ x, w' = ext w x := by
  have := ahead_any p q n d w hn hd
  rw [h] at this; exact this
theorem sameIDs_lit (A B : Option Addr) (c d : Nat) (l m : List Int) (b : Bool) (h : decide (l = m) = b) (w : World) (hs : Sl w 1 A l.length c (vi l)) (ht : Sl w 1 B m.length d (vi m)) (hl : l.length ≤ 1000000) (hm : m.length ≤ 1000000) :
    Calls Try.prog 34 #[.slice A l.length c, .slice B m.length d] w fun e w' => e = .returned (.bool b) ∧ ∃ x, w' = ext w x := h ▸ sameIDs_any A B c d l m w hs ht hl hm
theorem same03_lit (A B : Option Addr) (c d : Nat) (l m : List Pt) (b : Bool) (h : decide (l = m) = b) (w : World) (hs : Sl w 3 A l.length c (vp l)) (ht : Sl w 3 B m.length d (vp m)) (hl : l.length ≤ 1000000) (hm : m.length ≤ 1000000) :
    Calls Try.prog 27 #[.agg #[.slice A l.length c], .agg #[.slice B m.length d]] w fun e w' => e = .returned (.bool b) ∧ ∃ x, w' = ext w x := h ▸ same03_any A B c d l m w hs ht hl hm
theorem timed_lit (A : Option Addr) (c : Nat) (l : List Pt) (n d v : Int) (h : timed l n d = v) (w : World) (hn : -9223372036854775808 ≤ n ∧ n ≤ 9223372036854775807) (hd : -9223372036854775808 ≤ d ∧ d ≤ 9223372036854775807) (hs : Sl w 3 A l.length c (vp l)) (hl : l.length ≤ 1000000) :
    Calls Try.prog 45 #[.agg #[.slice A l.length c], .agg #[.int .i64 n, .int .i64 d]] w fun e w' => e = .returned (.int .i64 v) ∧ ∃ x, w' = ext w x := h ▸ timed_any A c l n d w hn hd hs hl
theorem great_lit (A : Option Addr) (n c : Nat) (b : Bool) (h : great n = b) (w : World) : Calls Try.prog 15 #[.agg #[.slice A n c]] w fun e w' => e = .returned (.bool b) ∧ ∃ x, w' = ext w x := h ▸ great_any A n c w
theorem ref3chk_lit (A : Option Addr) (c : Nat) (l : List Pt) (v : Int) (h : fieldChk l = v) (w : World) (hs : Sl w 3 A l.length c (vp l)) :
    Calls Try.prog 26 #[.agg #[.slice A l.length c]] w fun e w' => e = .returned (.int .i64 v) ∧ ∃ x, w' = ext w x := h ▸ ref03Check_any A c l w hs
end Go.Proofs.Ytkcpnclgcmnlcaa

namespace Go.Proofs.Ytkcpnclgcmnlcaa
open Go.RowKit Go.Pel
theorem own_int {W : World} {B : Nat} {e : TypeId} {g n c : Nat} {L : List Int} (h : Own W B e 1 (some ⟨g, 0, none⟩) n c (vi L)) {k : Nat} {x : Int} (hx : L[k]? = some x) : W.cell? ⟨g, k, none⟩ = some (.int .i64 x) := own_cell h (by simp [vi, hx])
theorem sl_vi_take {w : World} {A : Option Addr} {n c k : Nat} {L : List Int} (h : Sl w 1 A n c (vi L)) (hk : k ≤ n) : Sl w 1 A k c (vi (L.take k)) := by
  have := h.take hk
  rw [Nat.mul_one] at this
  unfold vi at this ⊢
  rw [List.map_take]; exact this
theorem sl_vi_drop {w : World} {b o n c i : Nat} {L : List Int} (h : Sl w 1 (some ⟨b, o, none⟩) n c (vi L)) (hi : i ≤ n) : Sl w 1 (some ⟨b, o + i, none⟩) (n - i) (c - i) (vi (L.drop i)) := by
  have h2 : vi L = L.flatMap (fun x => [Value.int .i64 x]) := by unfold vi; rw [List.map_eq_flatMap]
  rw [h2] at h
  have := fl_sl_drop (k := 1) (cells := fun x : Int => [Value.int .i64 x]) (fun _ => rfl) h hi
  rw [Nat.mul_one] at this
  unfold vi; rw [List.map_eq_flatMap]; exact this
theorem vi_one (L : List Int) : ∀ u ∈ vi L, u.oneCell' = true := by
  intro u hu; unfold vi at hu; rw [List.mem_map] at hu; obtain ⟨x, _, rfl⟩ := hu; rfl
theorem vi_append (L M : List Int) : vi (L ++ M) = vi L ++ vi M := by simp [vi]
end Go.Proofs.Ytkcpnclgcmnlcaa
