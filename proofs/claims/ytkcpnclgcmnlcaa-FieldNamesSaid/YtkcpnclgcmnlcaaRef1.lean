/- The reference's numbers of 128 bits: product, Product, less, minus, Plus, Sign. -/
import Derived.Test.YtkcpnclgcmnlcaaSpec2
import Derived.Test.YtkcpnclgcmnlcaaNum
set_option linter.unusedSimpArgs false
set_option linter.unusedVariables false
namespace Go.Proofs.Ytkcpnclgcmnlcaa
open Go.RowKit Go.Pel
theorem wu (x : Int) (y : Nat) (h : x = y) (hy : y < 18446744073709551616) : IntKind.u64.wrap x = (y : Int) := by rw [IntKind.wrap_u64, h]; omega
set_option maxRecDepth 10000 in
set_option maxHeartbeats 2000000 in
theorem product_any (a b : Nat) (w : World) (ha : a < 18446744073709551616) (hb : b < 18446744073709551616) :
    Calls Try.prog 152 #[.int .u64 a, .int .u64 b] w fun e w' => e = .returned (.agg #[.bool false, .int .u64 ((a * b / 18446744073709551616 : Nat) : Int), .int .u64 ((a * b % 18446744073709551616 : Nat) : Int)]) ∧ ∃ x, w' = ext w x := by
  obtain ⟨ah, hah⟩ : ∃ x : Nat, a / 4294967296 = x := ⟨_, rfl⟩
  obtain ⟨al, hal⟩ : ∃ x : Nat, a % 4294967296 = x := ⟨_, rfl⟩
  obtain ⟨bh, hbh⟩ : ∃ x : Nat, b / 4294967296 = x := ⟨_, rfl⟩
  obtain ⟨bl, hbl⟩ : ∃ x : Nat, b % 4294967296 = x := ⟨_, rfl⟩
  obtain ⟨m0, hm0⟩ : ∃ x : Nat, al * bl = x := ⟨_, rfl⟩
  obtain ⟨x1, hx1⟩ : ∃ x : Nat, ah * bl = x := ⟨_, rfl⟩
  obtain ⟨y1, hy1⟩ : ∃ x : Nat, al * bh = x := ⟨_, rfl⟩
  obtain ⟨z1, hz1⟩ : ∃ x : Nat, ah * bh = x := ⟨_, rfl⟩
  have b0 : m0 ≤ 4294967295 * 4294967295 := by rw [← hm0]; exact Nat.mul_le_mul (by omega) (by omega)
  have b1 : x1 ≤ 4294967295 * 4294967295 := by rw [← hx1]; exact Nat.mul_le_mul (by omega) (by omega)
  have b2 : y1 ≤ 4294967295 * 4294967295 := by rw [← hy1]; exact Nat.mul_le_mul (by omega) (by omega)
  have b3 : z1 ≤ 4294967295 * 4294967295 := by rw [← hz1]; exact Nat.mul_le_mul (by omega) (by omega)
  have hab : a * b = z1 * 18446744073709551616 + (x1 + y1) * 4294967296 + m0 := by
    have e1 : a = ah * 4294967296 + al := by omega
    have e2 : b = bh * 4294967296 + bl := by omega
    rw [e1, e2, Nat.add_mul, Nat.mul_add, Nat.mul_add]
    have f1 : ah * 4294967296 * (bh * 4294967296) = z1 * 18446744073709551616 := by rw [← hz1, Nat.mul_mul_mul_comm]
    have f2 : ah * 4294967296 * bl = x1 * 4294967296 := by rw [← hx1, Nat.mul_right_comm]
    have f3 : al * (bh * 4294967296) = y1 * 4294967296 := by rw [← hy1, Nat.mul_assoc]
    rw [f1, f2, f3, hm0, Nat.add_mul]; omega
  obtain ⟨m0h, hm0h⟩ : ∃ x : Nat, m0 / 4294967296 = x := ⟨_, rfl⟩
  obtain ⟨lr, hlr⟩ : ∃ x : Nat, m0 % 4294967296 = x := ⟨_, rfl⟩
  obtain ⟨m, hm⟩ : ∃ x : Nat, x1 + m0h = x := ⟨_, rfl⟩
  obtain ⟨mr, hmr⟩ : ∃ x : Nat, m % 4294967296 = x := ⟨_, rfl⟩
  obtain ⟨mq, hmq⟩ : ∃ x : Nat, m / 4294967296 = x := ⟨_, rfl⟩
  obtain ⟨n, hn⟩ : ∃ x : Nat, y1 + mr = x := ⟨_, rfl⟩
  obtain ⟨nr, hnr⟩ : ∃ x : Nat, n % 4294967296 = x := ⟨_, rfl⟩
  obtain ⟨nq, hnq⟩ : ∃ x : Nat, n / 4294967296 = x := ⟨_, rfl⟩
  obtain ⟨z2, hz2⟩ : ∃ x : Nat, z1 + mq = x := ⟨_, rfl⟩
  obtain ⟨nn, hnn⟩ : ∃ x : Nat, nr * 4294967296 = x := ⟨_, rfl⟩
  have HF : Hid (((a * b / 18446744073709551616 : Nat) : Int) = ((z2 + nq : Nat) : Int) ∧ ((a * b % 18446744073709551616 : Nat) : Int) = ((nn + lr : Nat) : Int)) := Lib.hid (by rw [hab]; omega)
  obtain ⟨hi, hhi⟩ : ∃ x : Nat, z2 + nq = x := ⟨_, rfl⟩
  obtain ⟨lo, hlo⟩ : ∃ x : Nat, nn + lr = x := ⟨_, rfl⟩
  rw [hhi, hlo] at HF
  have e1 : IntKind.u64.wrap ((al : Int) * bl) = (m0 : Int) := wu _ _ (by rw [← hm0]; simp) (by omega)
  have e3 : IntKind.u64.wrap ((ah : Int) * bl) = (x1 : Int) := wu _ _ (by rw [← hx1]; simp) (by omega)
  have e6 : IntKind.u64.wrap ((al : Int) * bh) = (y1 : Int) := wu _ _ (by rw [← hy1]; simp) (by omega)
  have e9 : IntKind.u64.wrap ((ah : Int) * bh) = (z1 : Int) := wu _ _ (by rw [← hz1]; simp) (by omega)
  have e4 : IntKind.u64.wrap ((x1 : Int) + m0h) = (m : Int) := wu _ _ (by omega) (by omega)
  have e7 : IntKind.u64.wrap ((y1 : Int) + mr) = (n : Int) := wu _ _ (by omega) (by omega)
  have e10 : IntKind.u64.wrap ((z1 : Int) + mq) = (z2 : Int) := wu _ _ (by omega) (by omega)
  have e12 : IntKind.u64.wrap ((z2 : Int) + nq) = (hi : Int) := wu _ _ (by omega) (by omega)
  have e14 : IntKind.u64.wrap ((nr : Int) * 4294967296) = (nn : Int) := wu _ _ (by omega) (by omega)
  have e16 : IntKind.u64.wrap ((nn : Int) + lr) = (lo : Int) := wu _ _ (by omega) (by omega)
  have d1 : (a : Int) / 4294967296 = (ah : Int) := by omega
  have d2 : (a : Int) % 4294967296 = (al : Int) := by omega
  have d3 : (b : Int) / 4294967296 = (bh : Int) := by omega
  have d4 : (b : Int) % 4294967296 = (bl : Int) := by omega
  have d5 : (m0 : Int) / 4294967296 = (m0h : Int) := by omega
  have d6 : (m0 : Int) % 4294967296 = (lr : Int) := by omega
  have d7 : (m : Int) / 4294967296 = (mq : Int) := by omega
  have d8 : (m : Int) % 4294967296 = (mr : Int) := by omega
  have d9 : (n : Int) / 4294967296 = (nq : Int) := by omega
  have d10 : (n : Int) % 4294967296 = (nr : Int) := by omega
  have g0 : m0 < 18446744073709551616 := by omega
  have g1 : m < 18446744073709551616 := by omega
  have g2 : n < 18446744073709551616 := by omega
  clear hah hal hbh hbl hm0 hx1 hy1 hz1 b0 b1 b2 b3 hab hm0h hlr hm hmr hmq hn hnr hnq hz2 hnn hhi hlo
  go_enter Try.func152, Try.ntmps152
  go_wp2
  exact bodyPost_ret (v := .agg #[.bool false, .int .u64 (hi : Int), .int .u64 (lo : Int)]) (by simp [results, Try.results152, go_sem]) rfl ⟨by rw [HF.out.1, HF.out.2], ext_of (by (try simp only [ext_ext]); repeat (first | exact Bel.refl _ | assumption | refine bel_and ?_ _ | refine bel_drews ?_ _ | refine Bel.ext ?_ _ | refine Bel.alloc ?_ _ | refine Bel.drewN ?_ _))⟩
/-- the number that a sign and an absolute value of 128 bits are -/
def bigV (neg : Bool) (hi lo : Nat) : Int := if neg then -((hi : Int) * 18446744073709551616 + lo) else (hi : Int) * 18446744073709551616 + lo
set_option maxRecDepth 10000 in
set_option maxHeartbeats 2000000 in
theorem refProduct_any (a b : Int) (w : World) (ha : -9223372036854775808 ≤ a ∧ a ≤ 9223372036854775807) (hb : -9223372036854775808 ≤ b ∧ b ≤ 9223372036854775807) :
    Calls Try.prog 144 #[.int .i64 a, .int .i64 b] w fun e w' => e = .returned (.agg #[.bool (decide (a * b < 0)), .int .u64 (((a * b).natAbs / 18446744073709551616 : Nat) : Int), .int .u64 (((a * b).natAbs % 18446744073709551616 : Nat) : Int)]) ∧ ∃ x, w' = ext w x := by
  have q1 := Lib.hid (fun W => size_any a W ha)
  have q2 := Lib.hid (fun W => size_any b W hb)
  have q3 := Lib.hid (fun W => product_any a.natAbs b.natAbs W (by omega) (by omega))
  rw [← Int.natAbs_mul] at q3
  obtain ⟨H, hH⟩ : ∃ H : Nat, (a * b).natAbs / 18446744073709551616 = H := ⟨_, rfl⟩
  obtain ⟨L, hL⟩ : ∃ H : Nat, (a * b).natAbs % 18446744073709551616 = H := ⟨_, rfl⟩
  rw [hH, hL] at q3 ⊢
  have hneg : decide (a * b < 0) = (!(decide (a < 0) == decide (b < 0)) && (!(a == 0) && !(b == 0))) := by
    rcases Int.lt_trichotomy a 0 with h1 | h1 | h1 <;> rcases Int.lt_trichotomy b 0 with h2 | h2 | h2
    · have := Int.mul_pos_of_neg_of_neg h1 h2; simp [h1, h2, show ¬ a * b < 0 by omega]
    · subst h2; simp
    · have := Int.mul_neg_of_neg_of_pos h1 h2; simp [h1, this, show ¬ b < 0 by omega, show ¬ a = 0 by omega, show ¬ b = 0 by omega]
    · subst h1; simp
    · subst h1; simp
    · subst h1; simp
    · have := Int.mul_neg_of_pos_of_neg h1 h2; simp [h2, this, show ¬ a < 0 by omega, show ¬ a = 0 by omega, show ¬ b = 0 by omega]
    · subst h2; simp
    · have := Int.mul_pos h1 h2; simp [show ¬ a * b < 0 by omega, show ¬ a < 0 by omega, show ¬ b < 0 by omega]
  cases hk : (decide (a < 0) == decide (b < 0)) with
  | true =>
    have HN : Hid (decide (a * b < 0) = false) := Lib.hid (by rw [hneg, hk]; rfl)
    clear hneg hH hL ha hb
    go_enter Try.func144, Try.ntmps144
    go_wp2_with (first | (go_at_call 112; (with_reducible refine (q1.out _).mono ?_); rintro e _ ⟨rfl, nx, rfl⟩) | (go_at_call 112; (with_reducible refine (q2.out _).mono ?_); rintro e _ ⟨rfl, nx, rfl⟩) | (go_at_call 152; (with_reducible refine (q3.out _).mono ?_); rintro e _ ⟨rfl, nx, rfl⟩))
    exact bodyPost_ret (v := .agg #[.bool false, .int .u64 (H : Int), .int .u64 (L : Int)]) (by simp [results, Try.results144, go_sem]) rfl ⟨by rw [HN.out], ext_of (by (try simp only [ext_ext]); repeat (first | exact Bel.refl _ | assumption | refine bel_and ?_ _ | refine bel_drews ?_ _ | refine Bel.ext ?_ _ | refine Bel.alloc ?_ _ | refine Bel.drewN ?_ _))⟩
  | false =>
    cases h1 : (a == 0) with
    | true =>
      have HN : Hid (decide (a * b < 0) = false) := Lib.hid (by rw [hneg, hk, h1]; rfl)
      have h1' : (a != 0) = false := by rw [bne, h1]; rfl
      clear hneg hH hL ha hb
      go_enter Try.func144, Try.ntmps144
      go_wp2_with (first | (go_at_call 112; (with_reducible refine (q1.out _).mono ?_); rintro e _ ⟨rfl, nx, rfl⟩) | (go_at_call 112; (with_reducible refine (q2.out _).mono ?_); rintro e _ ⟨rfl, nx, rfl⟩) | (go_at_call 152; (with_reducible refine (q3.out _).mono ?_); rintro e _ ⟨rfl, nx, rfl⟩))
      exact bodyPost_ret (v := .agg #[.bool false, .int .u64 (H : Int), .int .u64 (L : Int)]) (by simp [results, Try.results144, go_sem]) rfl ⟨by rw [HN.out], ext_of (by (try simp only [ext_ext]); repeat (first | exact Bel.refl _ | assumption | refine bel_and ?_ _ | refine bel_drews ?_ _ | refine Bel.ext ?_ _ | refine Bel.alloc ?_ _ | refine Bel.drewN ?_ _))⟩
    | false =>
      have h1' : (a != 0) = true := by rw [bne, h1]; rfl
      cases h2 : (b == 0) with
      | true =>
        have HN : Hid (decide (a * b < 0) = false) := Lib.hid (by rw [hneg, hk, h1, h2]; rfl)
        have h2' : (b != 0) = false := by rw [bne, h2]; rfl
        clear hneg hH hL ha hb
        go_enter Try.func144, Try.ntmps144
        go_wp2_with (first | (go_at_call 112; (with_reducible refine (q1.out _).mono ?_); rintro e _ ⟨rfl, nx, rfl⟩) | (go_at_call 112; (with_reducible refine (q2.out _).mono ?_); rintro e _ ⟨rfl, nx, rfl⟩) | (go_at_call 152; (with_reducible refine (q3.out _).mono ?_); rintro e _ ⟨rfl, nx, rfl⟩))
        exact bodyPost_ret (v := .agg #[.bool false, .int .u64 (H : Int), .int .u64 (L : Int)]) (by simp [results, Try.results144, go_sem]) rfl ⟨by rw [HN.out], ext_of (by (try simp only [ext_ext]); repeat (first | exact Bel.refl _ | assumption | refine bel_and ?_ _ | refine bel_drews ?_ _ | refine Bel.ext ?_ _ | refine Bel.alloc ?_ _ | refine Bel.drewN ?_ _))⟩
      | false =>
        have HN : Hid (decide (a * b < 0) = true) := Lib.hid (by rw [hneg, hk, h1, h2]; rfl)
        have h2' : (b != 0) = true := by rw [bne, h2]; rfl
        clear hneg hH hL ha hb
        go_enter Try.func144, Try.ntmps144
        go_wp2_with (first | (go_at_call 112; (with_reducible refine (q1.out _).mono ?_); rintro e _ ⟨rfl, nx, rfl⟩) | (go_at_call 112; (with_reducible refine (q2.out _).mono ?_); rintro e _ ⟨rfl, nx, rfl⟩) | (go_at_call 152; (with_reducible refine (q3.out _).mono ?_); rintro e _ ⟨rfl, nx, rfl⟩))
        exact bodyPost_ret (v := .agg #[.bool true, .int .u64 (H : Int), .int .u64 (L : Int)]) (by simp [results, Try.results144, go_sem]) rfl ⟨by rw [HN.out], ext_of (by (try simp only [ext_ext]); repeat (first | exact Bel.refl _ | assumption | refine bel_and ?_ _ | refine bel_drews ?_ _ | refine Bel.ext ?_ _ | refine Bel.alloc ?_ _ | refine Bel.drewN ?_ _))⟩

set_option maxHeartbeats 1000000 in
theorem refLess_any (n1 n2 : Bool) (h1 l1 h2 l2 : Nat) (w : World) (b1 : h1 < 18446744073709551616) (b2 : l1 < 18446744073709551616) (b3 : h2 < 18446744073709551616) (b4 : l2 < 18446744073709551616) :
    Calls Try.prog 150 #[.agg #[.bool n1, .int .u64 h1, .int .u64 l1], .agg #[.bool n2, .int .u64 h2, .int .u64 l2]] w fun e w' => e = .returned (.int .i64 (cmpZ ((h1 : Int) * 18446744073709551616 + l1) ((h2 : Int) * 18446744073709551616 + l2))) ∧ ∃ x, w' = ext w x := by
  rcases Nat.lt_trichotomy h1 h2 with h | h | h
  · have HR := Lib.hid (cmpZ_lt (a := (h1 : Int) * 18446744073709551616 + l1) (b := (h2 : Int) * 18446744073709551616 + l2) (by omega))
    have e1 : ((h1 : Int) == (h2 : Int)) = false := by rw [beq_eq_false_iff_ne]; omega
    have e2 : ((h1 : Int) != (h2 : Int)) = true := by rw [bne, e1]; rfl
    have e3 : (h1 : Int) < (h2 : Int) := by omega
    clear b1 b2 b3 b4
    go_enter Try.func150, Try.ntmps150
    go_wp2
    (go_ret; exact ⟨ret_int (by exact HR.out.symm), ext_of (by (try simp only [ext_ext]); repeat (first | exact Bel.refl _ | assumption | refine bel_and ?_ _ | refine bel_drews ?_ _ | refine Bel.ext ?_ _ | refine Bel.alloc ?_ _ | refine Bel.drewN ?_ _))⟩)
  · subst h
    rcases Nat.lt_trichotomy l1 l2 with k | k | k
    · have HR := Lib.hid (cmpZ_lt (a := (h1 : Int) * 18446744073709551616 + l1) (b := (h1 : Int) * 18446744073709551616 + l2) (by omega))
      have e1 : ((l1 : Int) == (l2 : Int)) = false := by rw [beq_eq_false_iff_ne]; omega
      have e2 : ((l1 : Int) != (l2 : Int)) = true := by rw [bne, e1]; rfl
      have e3 : (l1 : Int) < (l2 : Int) := by omega
      clear b1 b2 b3 b4
      go_enter Try.func150, Try.ntmps150
      go_wp2
      (go_ret; exact ⟨ret_int (by exact HR.out.symm), ext_of (by (try simp only [ext_ext]); repeat (first | exact Bel.refl _ | assumption | refine bel_and ?_ _ | refine bel_drews ?_ _ | refine Bel.ext ?_ _ | refine Bel.alloc ?_ _ | refine Bel.drewN ?_ _))⟩)
    · subst k
      have HR := Lib.hid (cmpZ_eq (a := (h1 : Int) * 18446744073709551616 + l1) (b := (h1 : Int) * 18446744073709551616 + l1) rfl)
      clear b1 b2 b3 b4
      go_enter Try.func150, Try.ntmps150
      go_wp2
      (go_ret; exact ⟨ret_int (by exact HR.out.symm), ext_of (by (try simp only [ext_ext]); repeat (first | exact Bel.refl _ | assumption | refine bel_and ?_ _ | refine bel_drews ?_ _ | refine Bel.ext ?_ _ | refine Bel.alloc ?_ _ | refine Bel.drewN ?_ _))⟩)
    · have HR := Lib.hid (cmpZ_gt (a := (h1 : Int) * 18446744073709551616 + l1) (b := (h1 : Int) * 18446744073709551616 + l2) (by omega))
      have e1 : ((l1 : Int) == (l2 : Int)) = false := by rw [beq_eq_false_iff_ne]; omega
      have e2 : ((l1 : Int) != (l2 : Int)) = true := by rw [bne, e1]; rfl
      have e3 : ¬ (l1 : Int) < (l2 : Int) := by omega
      clear b1 b2 b3 b4
      go_enter Try.func150, Try.ntmps150
      go_wp2
      (go_ret; exact ⟨ret_int (by exact HR.out.symm), ext_of (by (try simp only [ext_ext]); repeat (first | exact Bel.refl _ | assumption | refine bel_and ?_ _ | refine bel_drews ?_ _ | refine Bel.ext ?_ _ | refine Bel.alloc ?_ _ | refine Bel.drewN ?_ _))⟩)
  · have HR := Lib.hid (cmpZ_gt (a := (h1 : Int) * 18446744073709551616 + l1) (b := (h2 : Int) * 18446744073709551616 + l2) (by omega))
    have e1 : ((h1 : Int) == (h2 : Int)) = false := by rw [beq_eq_false_iff_ne]; omega
    have e2 : ((h1 : Int) != (h2 : Int)) = true := by rw [bne, e1]; rfl
    have e3 : ¬ (h1 : Int) < (h2 : Int) := by omega
    clear b1 b2 b3 b4
    go_enter Try.func150, Try.ntmps150
    go_wp2
    (go_ret; exact ⟨ret_int (by exact HR.out.symm), ext_of (by (try simp only [ext_ext]); repeat (first | exact Bel.refl _ | assumption | refine bel_and ?_ _ | refine bel_drews ?_ _ | refine Bel.ext ?_ _ | refine Bel.alloc ?_ _ | refine Bel.drewN ?_ _))⟩)
end Go.Proofs.Ytkcpnclgcmnlcaa
