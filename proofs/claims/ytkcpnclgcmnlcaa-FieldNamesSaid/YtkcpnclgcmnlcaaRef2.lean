/- The reference's minus, Plus, Sign; who is ahead. -/
import Derived.Test.YtkcpnclgcmnlcaaRef1
import Derived.Test.YtkcpnclgcmnlcaaRegC
set_option linter.unusedSimpArgs false
set_option linter.unusedVariables false
namespace Go.Proofs.Ytkcpnclgcmnlcaa
open Go.RowKit Go.Pel
theorem wu' (x : Int) (y : Nat) (h : x = y ∨ x = (y : Int) - 18446744073709551616) (hy : y < 18446744073709551616) : IntKind.u64.wrap x = (y : Int) := by rw [IntKind.wrap_u64]; omega
set_option maxHeartbeats 1000000 in
theorem minus_any (n1 n2 : Bool) (M1 M2 : Nat) (w : World) (h : M2 ≤ M1) (hb : M1 < 340282366920938463463374607431768211456) :
    Calls Try.prog 151 #[.agg #[.bool n1, .int .u64 ((M1 / 18446744073709551616 : Nat) : Int), .int .u64 ((M1 % 18446744073709551616 : Nat) : Int)], .agg #[.bool n2, .int .u64 ((M2 / 18446744073709551616 : Nat) : Int), .int .u64 ((M2 % 18446744073709551616 : Nat) : Int)]] w
      fun e w' => e = .returned (.agg #[.bool false, .int .u64 (((M1 - M2) / 18446744073709551616 : Nat) : Int), .int .u64 (((M1 - M2) % 18446744073709551616 : Nat) : Int)]) ∧ ∃ x, w' = ext w x := by
  obtain ⟨h1, e1⟩ : ∃ x, M1 / 18446744073709551616 = x := ⟨_, rfl⟩
  obtain ⟨l1, e2⟩ : ∃ x, M1 % 18446744073709551616 = x := ⟨_, rfl⟩
  obtain ⟨h2, e3⟩ : ∃ x, M2 / 18446744073709551616 = x := ⟨_, rfl⟩
  obtain ⟨l2, e4⟩ : ∃ x, M2 % 18446744073709551616 = x := ⟨_, rfl⟩
  obtain ⟨h3, e5⟩ : ∃ x, (M1 - M2) / 18446744073709551616 = x := ⟨_, rfl⟩
  obtain ⟨l3, e6⟩ : ∃ x, (M1 - M2) % 18446744073709551616 = x := ⟨_, rfl⟩
  rw [e1, e2, e3, e4, e5, e6]
  have w1 : IntKind.u64.wrap ((l1 : Int) - l2) = (l3 : Int) := wu' _ _ (by omega) (by omega)
  by_cases hl : l1 < l2
  · obtain ⟨h4, e7⟩ : ∃ x, h1 - h2 = x := ⟨_, rfl⟩
    have w2 : IntKind.u64.wrap ((h1 : Int) - h2) = (h4 : Int) := wu' _ _ (by omega) (by omega)
    have w3 : IntKind.u64.wrap ((h4 : Int) - 1) = (h3 : Int) := wu' _ _ (by omega) (by omega)
    have hl' : (l1 : Int) < (l2 : Int) := by omega
    clear e1 e2 e3 e4 e5 e6 e7 h hb hl
    go_enter Try.func151, Try.ntmps151
    go_wp2
    exact bodyPost_ret (v := .agg #[.bool false, .int .u64 (h3 : Int), .int .u64 (l3 : Int)]) (by simp [results, Try.results151, go_sem]) rfl ⟨by rfl, ext_of (by (try simp only [ext_ext]); repeat (first | exact Bel.refl _ | assumption | refine bel_and ?_ _ | refine bel_drews ?_ _ | refine Bel.ext ?_ _ | refine Bel.alloc ?_ _ | refine Bel.drewN ?_ _))⟩
  · have w2 : IntKind.u64.wrap ((h1 : Int) - h2) = (h3 : Int) := wu' _ _ (by omega) (by omega)
    have hl' : ¬ (l1 : Int) < (l2 : Int) := by omega
    clear e1 e2 e3 e4 e5 e6 h hb hl
    go_enter Try.func151, Try.ntmps151
    go_wp2
    exact bodyPost_ret (v := .agg #[.bool false, .int .u64 (h3 : Int), .int .u64 (l3 : Int)]) (by simp [results, Try.results151, go_sem]) rfl ⟨by rfl, ext_of (by (try simp only [ext_ext]); repeat (first | exact Bel.refl _ | assumption | refine bel_and ?_ _ | refine bel_drews ?_ _ | refine Bel.ext ?_ _ | refine Bel.alloc ?_ _ | refine Bel.drewN ?_ _))⟩
set_option maxHeartbeats 1000000 in
theorem sign_any (P : Int) (w : World) :
    Calls Try.prog 142 #[.agg #[.bool (decide (P < 0)), .int .u64 ((P.natAbs / 18446744073709551616 : Nat) : Int), .int .u64 ((P.natAbs % 18446744073709551616 : Nat) : Int)]] w fun e w' => e = .returned (.int .i64 (cmpZ P 0)) ∧ ∃ x, w' = ext w x := by
  obtain ⟨h1, e1⟩ : ∃ x, P.natAbs / 18446744073709551616 = x := ⟨_, rfl⟩
  obtain ⟨l1, e2⟩ : ∃ x, P.natAbs % 18446744073709551616 = x := ⟨_, rfl⟩
  rw [e1, e2]
  rcases Int.lt_trichotomy P 0 with h | h | h
  · have HR := Lib.hid (cmpZ_lt h)
    rw [decide_eq_true h]
    cases k1 : ((h1 : Int) == 0) with
    | true =>
      have k2 : ((l1 : Int) == 0) = false := by rw [beq_iff_eq] at k1; rw [beq_eq_false_iff_ne]; omega
      clear e1 e2 h
      go_enter Try.func142, Try.ntmps142
      go_wp2
      (go_ret; exact ⟨ret_int (by exact HR.out.symm), ext_of (by (try simp only [ext_ext]); repeat (first | exact Bel.refl _ | assumption | refine bel_and ?_ _ | refine bel_drews ?_ _ | refine Bel.ext ?_ _ | refine Bel.alloc ?_ _ | refine Bel.drewN ?_ _))⟩)
    | false =>
      clear e1 e2 h
      go_enter Try.func142, Try.ntmps142
      go_wp2
      (go_ret; exact ⟨ret_int (by exact HR.out.symm), ext_of (by (try simp only [ext_ext]); repeat (first | exact Bel.refl _ | assumption | refine bel_and ?_ _ | refine bel_drews ?_ _ | refine Bel.ext ?_ _ | refine Bel.alloc ?_ _ | refine Bel.drewN ?_ _))⟩)
  · have HR := Lib.hid (cmpZ_eq h)
    have k1 : h1 = 0 := by omega
    have k2 : l1 = 0 := by omega
    subst h k1 k2
    clear e1 e2
    go_enter Try.func142, Try.ntmps142
    go_wp2
    (go_ret; exact ⟨ret_int (by exact HR.out.symm), ext_of (by (try simp only [ext_ext]); repeat (first | exact Bel.refl _ | assumption | refine bel_and ?_ _ | refine bel_drews ?_ _ | refine Bel.ext ?_ _ | refine Bel.alloc ?_ _ | refine Bel.drewN ?_ _))⟩)
  · have HR := Lib.hid (cmpZ_gt h)
    rw [decide_eq_false (by omega)]
    cases k1 : ((h1 : Int) == 0) with
    | true =>
      have k2 : ((l1 : Int) == 0) = false := by rw [beq_iff_eq] at k1; rw [beq_eq_false_iff_ne]; omega
      clear e1 e2 h
      go_enter Try.func142, Try.ntmps142
      go_wp2
      (go_ret; exact ⟨ret_int (by exact HR.out.symm), ext_of (by (try simp only [ext_ext]); repeat (first | exact Bel.refl _ | assumption | refine bel_and ?_ _ | refine bel_drews ?_ _ | refine Bel.ext ?_ _ | refine Bel.alloc ?_ _ | refine Bel.drewN ?_ _))⟩)
    | false =>
      clear e1 e2 h
      go_enter Try.func142, Try.ntmps142
      go_wp2
      (go_ret; exact ⟨ret_int (by exact HR.out.symm), ext_of (by (try simp only [ext_ext]); repeat (first | exact Bel.refl _ | assumption | refine bel_and ?_ _ | refine bel_drews ?_ _ | refine Bel.ext ?_ _ | refine Bel.alloc ?_ _ | refine Bel.drewN ?_ _))⟩)
/-- a number as the reference has it -/
def bigA (P : Int) : Value := .agg #[.bool (decide (P < 0)), .int .u64 ((P.natAbs / 18446744073709551616 : Nat) : Int), .int .u64 ((P.natAbs % 18446744073709551616 : Nat) : Int)]
set_option maxRecDepth 10000 in
set_option maxHeartbeats 2000000 in
theorem plus_any (P Q : Int) (w : World) (hP : P.natAbs < 85070591730234615865843651857942052864) (hQ : Q.natAbs < 85070591730234615865843651857942052864) :
    Calls Try.prog 143 #[.agg #[.bool (decide (P < 0)), .int .u64 ((P.natAbs / 18446744073709551616 : Nat) : Int), .int .u64 ((P.natAbs % 18446744073709551616 : Nat) : Int)], .agg #[.bool (decide (Q < 0)), .int .u64 ((Q.natAbs / 18446744073709551616 : Nat) : Int), .int .u64 ((Q.natAbs % 18446744073709551616 : Nat) : Int)]] w
      fun e w' => e = .returned (.agg #[.bool (decide (P + Q < 0)), .int .u64 (((P + Q).natAbs / 18446744073709551616 : Nat) : Int), .int .u64 (((P + Q).natAbs % 18446744073709551616 : Nat) : Int)]) ∧ ∃ x, w' = ext w x := by
  obtain ⟨h1, e1⟩ : ∃ x, P.natAbs / 18446744073709551616 = x := ⟨_, rfl⟩
  obtain ⟨l1, e2⟩ : ∃ x, P.natAbs % 18446744073709551616 = x := ⟨_, rfl⟩
  obtain ⟨h2, e3⟩ : ∃ x, Q.natAbs / 18446744073709551616 = x := ⟨_, rfl⟩
  obtain ⟨l2, e4⟩ : ∃ x, Q.natAbs % 18446744073709551616 = x := ⟨_, rfl⟩
  obtain ⟨h3, e5⟩ : ∃ x, (P + Q).natAbs / 18446744073709551616 = x := ⟨_, rfl⟩
  obtain ⟨l3, e6⟩ : ∃ x, (P + Q).natAbs % 18446744073709551616 = x := ⟨_, rfl⟩
  by_cases hs : decide (P < 0) = decide (Q < 0)
  · rw [e1, e2, e3, e4, e5, e6]
    have hR : decide (P + Q < 0) = decide (P < 0) := by
      by_cases h : P < 0
      · have hq : Q < 0 := by rw [decide_eq_true h] at hs; exact of_decide_eq_true hs.symm
        rw [decide_eq_true h, decide_eq_true (by omega)]
      · have hq : ¬ Q < 0 := by rw [decide_eq_false h] at hs; exact of_decide_eq_false hs.symm
        rw [decide_eq_false h, decide_eq_false (by omega)]
    have habs : (P + Q).natAbs = P.natAbs + Q.natAbs := by
      by_cases h : P < 0
      · have hq : Q < 0 := by rw [decide_eq_true h] at hs; exact of_decide_eq_true hs.symm
        omega
      · have hq : ¬ Q < 0 := by rw [decide_eq_false h] at hs; exact of_decide_eq_false hs.symm
        omega
    rw [hR, ← hs]
    obtain ⟨s, hsv⟩ : ∃ s, decide (P < 0) = s := ⟨_, rfl⟩
    rw [hsv]
    have w1 : IntKind.u64.wrap ((l1 : Int) + l2) = (l3 : Int) := by rw [IntKind.wrap_u64]; omega
    obtain ⟨h4, e7⟩ : ∃ x, h1 + h2 = x := ⟨_, rfl⟩
    have w2 : IntKind.u64.wrap ((h1 : Int) + h2) = (h4 : Int) := wu _ _ (by omega) (by omega)
    by_cases hl : l3 < l1
    · have w3 : IntKind.u64.wrap ((h4 : Int) + 1) = (h3 : Int) := wu _ _ (by omega) (by omega)
      have hl' : (l3 : Int) < (l1 : Int) := by omega
      clear e1 e2 e3 e4 e5 e6 e7 hP hQ hl hs hR hsv habs
      cases s with
      | false =>
        go_enter Try.func143, Try.ntmps143
        go_wp2
        exact bodyPost_ret (v := .agg #[.bool false, .int .u64 (h3 : Int), .int .u64 (l3 : Int)]) (by simp [results, Try.results143, go_sem]) rfl ⟨by rfl, ext_of (by (try simp only [ext_ext]); repeat (first | exact Bel.refl _ | assumption | refine bel_and ?_ _ | refine bel_drews ?_ _ | refine Bel.ext ?_ _ | refine Bel.alloc ?_ _ | refine Bel.drewN ?_ _))⟩
      | true =>
        go_enter Try.func143, Try.ntmps143
        go_wp2
        exact bodyPost_ret (v := .agg #[.bool true, .int .u64 (h3 : Int), .int .u64 (l3 : Int)]) (by simp [results, Try.results143, go_sem]) rfl ⟨by rfl, ext_of (by (try simp only [ext_ext]); repeat (first | exact Bel.refl _ | assumption | refine bel_and ?_ _ | refine bel_drews ?_ _ | refine Bel.ext ?_ _ | refine Bel.alloc ?_ _ | refine Bel.drewN ?_ _))⟩
    · obtain rfl : h4 = h3 := by omega
      have hl' : ¬ (l3 : Int) < (l1 : Int) := by omega
      clear e1 e2 e3 e4 e5 e6 e7 hP hQ hl hs hR hsv habs
      cases s with
      | false =>
        go_enter Try.func143, Try.ntmps143
        go_wp2
        exact bodyPost_ret (v := .agg #[.bool false, .int .u64 (h4 : Int), .int .u64 (l3 : Int)]) (by simp [results, Try.results143, go_sem]) rfl ⟨by rfl, ext_of (by (try simp only [ext_ext]); repeat (first | exact Bel.refl _ | assumption | refine bel_and ?_ _ | refine bel_drews ?_ _ | refine Bel.ext ?_ _ | refine Bel.alloc ?_ _ | refine Bel.drewN ?_ _))⟩
      | true =>
        go_enter Try.func143, Try.ntmps143
        go_wp2
        exact bodyPost_ret (v := .agg #[.bool true, .int .u64 (h4 : Int), .int .u64 (l3 : Int)]) (by simp [results, Try.results143, go_sem]) rfl ⟨by rfl, ext_of (by (try simp only [ext_ext]); repeat (first | exact Bel.refl _ | assumption | refine bel_and ?_ _ | refine bel_drews ?_ _ | refine Bel.ext ?_ _ | refine Bel.alloc ?_ _ | refine Bel.drewN ?_ _))⟩
  · have q1 := Lib.hid (fun W => refLess_any (decide (P < 0)) (decide (Q < 0)) h1 l1 h2 l2 W (by omega) (by omega) (by omega) (by omega))
    have m1 : (h1 : Int) * 18446744073709551616 + l1 = P.natAbs := by omega
    have m2 : (h2 : Int) * 18446744073709551616 + l2 = Q.natAbs := by omega
    rw [m1, m2] at q1
    by_cases hge : Q.natAbs ≤ P.natAbs
    · have q2 := Lib.hid (fun W => minus_any (decide (P < 0)) (decide (Q < 0)) P.natAbs Q.natAbs W hge (by omega))
      have habs : P.natAbs - Q.natAbs = (P + Q).natAbs := by
        by_cases h : P < 0
        · have hq : ¬ Q < 0 := by intro hq; rw [decide_eq_true h, decide_eq_true hq] at hs; exact hs rfl
          omega
        · have hq : Q < 0 := by
            rcases Classical.em (Q < 0) with hq | hq
            · exact hq
            · rw [decide_eq_false h, decide_eq_false hq] at hs; exact absurd rfl hs
          omega
      rw [habs, e1, e2, e3, e4, e5, e6] at q2
      rw [e1, e2, e3, e4, e5, e6]
      have hc : Hid (∃ v : Int, 0 ≤ v ∧ cmpZ (P.natAbs : Int) Q.natAbs = v) := Lib.hid (by
        by_cases h : P.natAbs = Q.natAbs
        · exact ⟨0, by omega, cmpZ_eq (by omega)⟩
        · exact ⟨1, by omega, cmpZ_gt (by omega)⟩)
      obtain ⟨v, hv, hv2⟩ := hc.out
      rw [hv2] at q1
      by_cases h : P < 0
      · rw [decide_eq_true h] at q1 q2 ⊢
        have hq : ¬ Q < 0 := by intro hq; rw [decide_eq_true h, decide_eq_true hq] at hs; exact hs rfl
        rw [decide_eq_false hq] at q1 q2 ⊢
        by_cases h0 : (P + Q).natAbs = 0
        · have hR := Lib.hid (decide_eq_false (show ¬ P + Q < 0 by omega))
          obtain rfl : h3 = 0 := by omega
          obtain rfl : l3 = 0 := by omega
          clear e1 e2 e3 e4 e5 e6 m1 m2 hge habs hc hv2 h hq h0 hs hP hQ
          go_enter Try.func143, Try.ntmps143
          go_wp2_with (first | (go_at_call 150; refine (q1.out _).mono ?_; rintro e _ ⟨rfl, nx, rfl⟩) | (go_at_call 151; refine (q2.out _).mono ?_; rintro e _ ⟨rfl, nx, rfl⟩))
          exact bodyPost_ret (v := .agg #[.bool false, .int .u64 0, .int .u64 0]) (by simp [results, Try.results143, go_sem]) rfl ⟨by (rw [hR.out]; rfl), ext_of (by (try simp only [ext_ext]); repeat (first | exact Bel.refl _ | assumption | refine bel_and ?_ _ | refine bel_drews ?_ _ | refine Bel.ext ?_ _ | refine Bel.alloc ?_ _ | refine Bel.drewN ?_ _))⟩
        · have hR := Lib.hid (decide_eq_true (show P + Q < 0 by omega))
          by_cases h30 : 0 < h3
          · have k1 : (0 : Int) < (h3 : Int) := by omega
            clear e1 e2 e3 e4 e5 e6 m1 m2 hge habs hc hv2 h hq h0 hs hP hQ
            go_enter Try.func143, Try.ntmps143
            go_wp2_with (first | (go_at_call 150; refine (q1.out _).mono ?_; rintro e _ ⟨rfl, nx, rfl⟩) | (go_at_call 151; refine (q2.out _).mono ?_; rintro e _ ⟨rfl, nx, rfl⟩))
            exact bodyPost_ret (v := .agg #[.bool true, .int .u64 (h3 : Int), .int .u64 (l3 : Int)]) (by simp [results, Try.results143, go_sem]) rfl ⟨by (rw [hR.out]), ext_of (by (try simp only [ext_ext]); repeat (first | exact Bel.refl _ | assumption | refine bel_and ?_ _ | refine bel_drews ?_ _ | refine Bel.ext ?_ _ | refine Bel.alloc ?_ _ | refine Bel.drewN ?_ _))⟩
          · have k1 : ¬ (0 : Int) < (h3 : Int) := by omega
            have k2 : (0 : Int) < (l3 : Int) := by omega
            have k2d : decide (0 < l3) = true := decide_eq_true (by omega)
            clear e1 e2 e3 e4 e5 e6 m1 m2 hge habs hc hv2 h hq h0 hs hP hQ
            go_enter Try.func143, Try.ntmps143
            go_wp2_with (first | (go_at_call 150; refine (q1.out _).mono ?_; rintro e _ ⟨rfl, nx, rfl⟩) | (go_at_call 151; refine (q2.out _).mono ?_; rintro e _ ⟨rfl, nx, rfl⟩))
            exact bodyPost_ret (v := .agg #[.bool true, .int .u64 (h3 : Int), .int .u64 (l3 : Int)]) (by simp [results, Try.results143, go_sem]) rfl ⟨by rw [hR.out], ext_of (by (try simp only [ext_ext]); repeat (first | exact Bel.refl _ | assumption | refine bel_and ?_ _ | refine bel_drews ?_ _ | refine Bel.ext ?_ _ | refine Bel.alloc ?_ _ | refine Bel.drewN ?_ _))⟩
      · rw [decide_eq_false h] at q1 q2 ⊢
        have hq : Q < 0 := by
          rcases Classical.em (Q < 0) with hq | hq
          · exact hq
          · rw [decide_eq_false h, decide_eq_false hq] at hs; exact absurd rfl hs
        rw [decide_eq_true hq] at q1 q2 ⊢
        have hR := Lib.hid (decide_eq_false (show ¬ P + Q < 0 by omega))
        clear e1 e2 e3 e4 e5 e6 m1 m2 hge habs hc hv2 h hq hs hP hQ
        go_enter Try.func143, Try.ntmps143
        go_wp2_with (first | (go_at_call 150; refine (q1.out _).mono ?_; rintro e _ ⟨rfl, nx, rfl⟩) | (go_at_call 151; refine (q2.out _).mono ?_; rintro e _ ⟨rfl, nx, rfl⟩))
        exact bodyPost_ret (v := .agg #[.bool false, .int .u64 (h3 : Int), .int .u64 (l3 : Int)]) (by simp [results, Try.results143, go_sem]) rfl ⟨by (rw [hR.out]), ext_of (by (try simp only [ext_ext]); repeat (first | exact Bel.refl _ | assumption | refine bel_and ?_ _ | refine bel_drews ?_ _ | refine Bel.ext ?_ _ | refine Bel.alloc ?_ _ | refine Bel.drewN ?_ _))⟩
    · have q2 := Lib.hid (fun W => minus_any (decide (Q < 0)) (decide (P < 0)) Q.natAbs P.natAbs W (by omega) (by omega))
      have habs : Q.natAbs - P.natAbs = (P + Q).natAbs := by
        by_cases h : P < 0
        · have hq : ¬ Q < 0 := by intro hq; rw [decide_eq_true h, decide_eq_true hq] at hs; exact hs rfl
          omega
        · have hq : Q < 0 := by
            rcases Classical.em (Q < 0) with hq | hq
            · exact hq
            · rw [decide_eq_false h, decide_eq_false hq] at hs; exact absurd rfl hs
          omega
      rw [habs, e1, e2, e3, e4, e5, e6] at q2
      rw [e1, e2, e3, e4, e5, e6]
      rw [cmpZ_lt (show (P.natAbs : Int) < Q.natAbs by omega)] at q1
      by_cases h : P < 0
      · rw [decide_eq_true h] at q1 q2 ⊢
        have hq : ¬ Q < 0 := by intro hq; rw [decide_eq_true h, decide_eq_true hq] at hs; exact hs rfl
        rw [decide_eq_false hq] at q1 q2 ⊢
        have hR := Lib.hid (decide_eq_false (show ¬ P + Q < 0 by omega))
        clear e1 e2 e3 e4 e5 e6 m1 m2 hge habs h hq hs hP hQ
        go_enter Try.func143, Try.ntmps143
        go_wp2_with (first | (go_at_call 150; refine (q1.out _).mono ?_; rintro e _ ⟨rfl, nx, rfl⟩) | (go_at_call 151; refine (q2.out _).mono ?_; rintro e _ ⟨rfl, nx, rfl⟩))
        exact bodyPost_ret (v := .agg #[.bool false, .int .u64 (h3 : Int), .int .u64 (l3 : Int)]) (by simp [results, Try.results143, go_sem]) rfl ⟨by (rw [hR.out]), ext_of (by (try simp only [ext_ext]); repeat (first | exact Bel.refl _ | assumption | refine bel_and ?_ _ | refine bel_drews ?_ _ | refine Bel.ext ?_ _ | refine Bel.alloc ?_ _ | refine Bel.drewN ?_ _))⟩
      · rw [decide_eq_false h] at q1 q2 ⊢
        have hq : Q < 0 := by
          rcases Classical.em (Q < 0) with hq | hq
          · exact hq
          · rw [decide_eq_false h, decide_eq_false hq] at hs; exact absurd rfl hs
        rw [decide_eq_true hq] at q1 q2 ⊢
        have hR := Lib.hid (decide_eq_true (show P + Q < 0 by omega))
        clear e1 e2 e3 e4 e5 e6 m1 m2 hge habs h hq hs hP hQ
        go_enter Try.func143, Try.ntmps143
        go_wp2_with (first | (go_at_call 150; refine (q1.out _).mono ?_; rintro e _ ⟨rfl, nx, rfl⟩) | (go_at_call 151; refine (q2.out _).mono ?_; rintro e _ ⟨rfl, nx, rfl⟩))
        exact bodyPost_ret (v := .agg #[.bool true, .int .u64 (h3 : Int), .int .u64 (l3 : Int)]) (by simp [results, Try.results143, go_sem]) rfl ⟨by (rw [hR.out]), ext_of (by (try simp only [ext_ext]); repeat (first | exact Bel.refl _ | assumption | refine bel_and ?_ _ | refine bel_drews ?_ _ | refine Bel.ext ?_ _ | refine Bel.alloc ?_ _ | refine Bel.drewN ?_ _))⟩
end Go.Proofs.Ytkcpnclgcmnlcaa
