/- course.compare, two, Ahead. -/
import Derived.Test.YtkcpnclgcmnlcaaCrs1
import Derived.Test.YtkcpnclgcmnlcaaFld3
import Derived.Deep.RegionHeld3
import Derived.Outline
set_option linter.unusedSimpArgs false
set_option linter.unusedVariables false
namespace Go.Proofs.Ytkcpnclgcmnlcaa
open Go.RowKit Go.Pel
set_option maxHeartbeats 400000 in
theorem cmpZ_any (a b : Int) (w : World) : Calls Try.prog 99 #[.int .i64 a, .int .i64 b] w fun e w' => e = .returned (.int .i64 (cmpZ a b)) ∧ ∃ x, w' = ext w x := cmpInt_any a b w
set_option maxHeartbeats 400000 in
theorem cmpZ64_any (a b : Int) (w : World) : Calls Try.prog 118 #[.int .i64 a, .int .i64 b] w fun e w' => e = .returned (.int .i64 (cmpZ a b)) ∧ ∃ x, w' = ext w x := by
  rcases (by omega : a < b ∨ b < a ∨ a = b) with h | h | h
  · have H := Lib.hid (cmpZ_lt h)
    have h2 : ¬ b < a := by omega
    go_enter Try.func118, Try.ntmps118
    go_wp2
    (go_ret; exact ⟨ret_int (by exact H.out.symm), ext_of (by (try simp only [ext_ext]); repeat (first | exact Bel.refl _ | assumption | refine bel_and ?_ _ | refine bel_drews ?_ _ | refine Bel.ext ?_ _ | refine Bel.alloc ?_ _ | refine Bel.drewN ?_ _))⟩)
  · have H := Lib.hid (cmpZ_gt h)
    have h2 : ¬ a < b := by omega
    go_enter Try.func118, Try.ntmps118
    go_wp2
    (go_ret; exact ⟨ret_int (by exact H.out.symm), ext_of (by (try simp only [ext_ext]); repeat (first | exact Bel.refl _ | assumption | refine bel_and ?_ _ | refine bel_drews ?_ _ | refine Bel.ext ?_ _ | refine Bel.alloc ?_ _ | refine Bel.drewN ?_ _))⟩)
  · have H := Lib.hid (cmpZ_eq h)
    have h2 : ¬ a < b := by omega
    have h3 : ¬ b < a := by omega
    clear h
    go_enter Try.func118, Try.ntmps118
    go_wp2
    (go_ret; exact ⟨ret_int (by exact H.out.symm), ext_of (by (try simp only [ext_ext]); repeat (first | exact Bel.refl _ | assumption | refine bel_and ?_ _ | refine bel_drews ?_ _ | refine Bel.ext ?_ _ | refine Bel.alloc ?_ _ | refine Bel.drewN ?_ _))⟩)
set_option maxHeartbeats 1000000 in
theorem or2_any (x y : Int) (g : Nat) (w : World) (hg : g < w.heap.size) (h0 : w.cell? ⟨g, 0, none⟩ = some (.int .i64 x)) (h1 : w.cell? ⟨g, 1, none⟩ = some (.int .i64 y)) :
    Calls Try.prog 117 #[.slice (some ⟨g, 0, none⟩) 2 2] w fun e w' => e = .returned (.int .i64 (orZ x y)) ∧ ∃ x, w' = ext w x := by
  by_cases hx : x = 0
  · have HR : Hid (orZ x y = y) := Lib.hid (orZ_0 hx)
    have hx1 : (x == 0) = true := by simpa using hx
    have hx2 : (x != 0) = false := by simpa using hx
    clear hx
    by_cases hy : y = 0
    · have HY := Lib.hid hy
      have hy1 : (y == 0) = true := by simpa using hy
      have hy2 : (y != 0) = false := by simpa using hy
      clear hy
      go_enter Try.func117, Try.ntmps117
      go_wp2
      refine wp_loop_rounds 3 ?_
      rw [rounds_succ]
      go_wp2
      rw [rounds_succ]
      go_wp2
      rw [rounds_succ]
      go_wp2
      (go_ret; exact ⟨ret_int (by rw [HR.out, HY.out]), ext_of (by (try simp only [ext_ext]); repeat (first | exact Bel.refl _ | assumption | refine bel_and ?_ _ | refine bel_drews ?_ _ | refine Bel.ext ?_ _ | refine Bel.alloc ?_ _ | refine Bel.drewN ?_ _))⟩)
    · have hy1 : (y == 0) = false := by simpa using hy
      have hy2 : (y != 0) = true := by simpa using hy
      clear hy
      go_enter Try.func117, Try.ntmps117
      go_wp2
      refine wp_loop_rounds 3 ?_
      rw [rounds_succ]
      go_wp2
      rw [rounds_succ]
      go_wp2
      (go_ret; exact ⟨ret_int (by exact HR.out.symm), ext_of (by (try simp only [ext_ext]); repeat (first | exact Bel.refl _ | assumption | refine bel_and ?_ _ | refine bel_drews ?_ _ | refine Bel.ext ?_ _ | refine Bel.alloc ?_ _ | refine Bel.drewN ?_ _))⟩)
  · have HR : Hid (orZ x y = x) := Lib.hid (orZ_1 hx)
    have hx1 : (x == 0) = false := by simpa using hx
    have hx2 : (x != 0) = true := by simpa using hx
    clear hx
    go_enter Try.func117, Try.ntmps117
    go_wp2
    refine wp_loop_rounds 3 ?_
    rw [rounds_succ]
    go_wp2
    (go_ret; exact ⟨ret_int (by exact HR.out.symm), ext_of (by (try simp only [ext_ext]); repeat (first | exact Bel.refl _ | assumption | refine bel_and ?_ _ | refine bel_drews ?_ _ | refine Bel.ext ?_ _ | refine Bel.alloc ?_ _ | refine Bel.drewN ?_ _))⟩)
/-- numbers that course.compare takes: points in their ranges, a time of 64 bits -/
structure CmpIn (p q : Pt) (n d : Int) : Prop where
  pa : -1048576 ≤ p.a ∧ p.a ≤ 1048576
  pb : -1048576 ≤ p.b ∧ p.b ≤ 1048576
  qa : -1048576 ≤ q.a ∧ q.a ≤ 1048576
  qb : -1048576 ≤ q.b ∧ q.b ≤ 1048576
  n : -9223372036854775807 ≤ n ∧ n ≤ 9223372036854775807
  d : 1 ≤ d ∧ d ≤ 9223372036854775807
theorem mul_bd (a b A B : Int) (ha : -A ≤ a ∧ a ≤ A) (hb : -B ≤ b ∧ b ≤ B) : -(A * B) ≤ a * b ∧ a * b ≤ A * B := by
  have hA : 0 ≤ A := by omega
  have hB : 0 ≤ B := by omega
  have h1 : 0 ≤ (A - a) * (B + b) := Int.mul_nonneg (by omega) (by omega)
  have h2 : 0 ≤ (A + a) * (B - b) := Int.mul_nonneg (by omega) (by omega)
  have h3 : 0 ≤ (A - a) * (B - b) := Int.mul_nonneg (by omega) (by omega)
  have h4 : 0 ≤ (A + a) * (B + b) := Int.mul_nonneg (by omega) (by omega)
  simp only [Int.sub_mul, Int.add_mul, Int.mul_sub, Int.mul_add] at h1 h2 h3 h4
  omega
theorem far_bd {p q : Pt} {n d : Int} (h : CmpIn p q n d) : (-38685626227668133590597632 ≤ (p.a - q.a) * d ∧ (p.a - q.a) * d ≤ 38685626227668133590597632) ∧ (-38685626227668133590597632 ≤ (p.b - q.b) * n ∧ (p.b - q.b) * n ≤ 38685626227668133590597632) := by
  obtain ⟨h1, h2, h3, h4, h5, h6⟩ := h
  have k1 := mul_bd (p.a - q.a) d 2097152 9223372036854775807 (by omega) (by omega)
  have k2 := mul_bd (p.b - q.b) n 2097152 9223372036854775807 (by omega) (by omega)
  omega
theorem equal_wide (h l h' l' : Int) (w : World) : (Op.equalIn 10000 149 (.agg #[.int .i64 h, .int .u64 l]) (.agg #[.int .i64 h', .int .u64 l'])).run Try.prog w = .ok (decide (h = h' ∧ l = l')) w := by
  simp [go_sem]
  by_cases h1 : h = h' <;> by_cases h2 : l = l' <;> simp [h1, h2]
attribute [local go_sem ↓] equal_wide
set_option maxRecDepth 10000 in
set_option maxHeartbeats 2000000 in
theorem compare_any (p q : Pt) (n d : Int) (w : World) (h : CmpIn p q n d) :
    Calls Try.prog 95 #[.agg #[.int .i64 p.id, .int .i64 p.a, .int .i64 p.b], .agg #[.int .i64 q.id, .int .i64 q.a, .int .i64 q.b], .agg #[.int .i64 n, .int .i64 d]] w fun e w' => e = .returned (.int .i64 (cmpC p q n d)) ∧ ∃ x, w' = ext w x := by
  obtain ⟨k1, k2⟩ := far_bd h
  obtain ⟨h1, h2, h3, h4, h5, h6⟩ := h
  have hs := sum_any (p.a - q.a) d (p.b - q.b) n
  have hs' := fun w => hs w (by omega) (by omega) (by omega) (by omega) k1 k2
  obtain ⟨D, hD⟩ : ∃ D, farD p q n d = D := ⟨_, rfl⟩
  have hD' : (p.a - q.a) * d + (p.b - q.b) * n = D := hD
  rw [hD'] at hs'
  obtain ⟨hi, hhi⟩ : ∃ x, D / 18446744073709551616 = x := ⟨_, rfl⟩
  obtain ⟨lo, hlo⟩ : ∃ x, D % 18446744073709551616 = x := ⟨_, rfl⟩
  rw [hhi, hlo] at hs'
  have q1 := Lib.hid hs'
  have HD := Lib.hid hD
  obtain ⟨a1, a2⟩ := h1; obtain ⟨a3, a4⟩ := h2; obtain ⟨a5, a6⟩ := h3; obtain ⟨a7, a8⟩ := h4
  rcases (by omega : D < 0 ∨ 0 < D ∨ D = 0) with hd0 | hd0 | hd0
  · have hne : decide (hi = 0 ∧ lo = 0) = false := by rw [decide_eq_false_iff_not]; omega
    have hlt : hi < 0 := by omega
    have HR := Lib.hid (cmpC_lt (p := p) (q := q) (n := n) (d := d) (by omega))
    clear hs hs' hD hD' hhi hlo k1 k2 h5 h6 hd0
    go_enter Try.func95, Try.ntmps95
    go_wp2_with ((go_at_call 116; refine (q1.out _).mono ?_; rintro e _ ⟨rfl, nx, rfl⟩))
    (go_ret; exact ⟨ret_int (by exact HR.out.symm), ext_of (by (try simp only [ext_ext]); repeat (first | exact Bel.refl _ | assumption | refine bel_and ?_ _ | refine bel_drews ?_ _ | refine Bel.ext ?_ _ | refine Bel.alloc ?_ _ | refine Bel.drewN ?_ _))⟩)
  · have hne : decide (hi = 0 ∧ lo = 0) = false := by rw [decide_eq_false_iff_not]; omega
    have hlt : ¬ hi < 0 := by omega
    have HR := Lib.hid (cmpC_gt (p := p) (q := q) (n := n) (d := d) (by omega))
    clear hs hs' hD hD' hhi hlo k1 k2 h5 h6 hd0
    go_enter Try.func95, Try.ntmps95
    go_wp2_with ((go_at_call 116; refine (q1.out _).mono ?_; rintro e _ ⟨rfl, nx, rfl⟩))
    (go_ret; exact ⟨ret_int (by exact HR.out.symm), ext_of (by (try simp only [ext_ext]); repeat (first | exact Bel.refl _ | assumption | refine bel_and ?_ _ | refine bel_drews ?_ _ | refine Bel.ext ?_ _ | refine Bel.alloc ?_ _ | refine Bel.drewN ?_ _))⟩)
  · have hne : decide (hi = 0 ∧ lo = 0) = true := by rw [decide_eq_true_eq]; omega
    have HR : Hid (orZ (cmpZ p.b q.b) (cmpZ q.id p.id) = cmpC p q n d) := Lib.hid (by unfold cmpC; rw [if_neg (by omega), if_neg (by omega)]; rfl)
    clear hs hs' hD hD' hhi hlo k1 k2 h5 h6 hd0
    go_enter Try.func95, Try.ntmps95
    go_wp2_with ((go_at_call 116; refine (q1.out _).mono ?_; rintro e _ ⟨rfl, y1, rfl⟩))
    go_region_held3 (fun w' => w'.cell? ⟨w.heap.size, 0, none⟩ = some (.int .i64 p.id) ∧ w'.cell? ⟨w.heap.size, 1, none⟩ = some (.int .i64 p.a) ∧ w'.cell? ⟨w.heap.size, 2, none⟩ = some (.int .i64 p.b) ∧ w'.cell? ⟨w.heap.size + 1, 0, none⟩ = some (.int .i64 q.id) ∧ w'.cell? ⟨w.heap.size + 1, 1, none⟩ = some (.int .i64 q.a) ∧ w'.cell? ⟨w.heap.size + 1, 2, none⟩ = some (.int .i64 q.b)) (simp [go_sem]) ((first | (go_at_call 99; refine (cmpZ_any _ _ _).mono ?_; rintro e _ ⟨rfl, nx, rfl⟩) | (go_at_call 118; refine (cmpZ64_any _ _ _).mono ?_; rintro e _ ⟨rfl, nx, rfl⟩) | (go_at_call 117; refine (or2_any (cmpZ p.b q.b) (cmpZ q.id p.id) _ _ (by simp [go_sem]) (by simp [go_sem]) (by simp [go_sem])).mono ?_; rintro e _ ⟨rfl, nx, rfl⟩)))
    all_goals
      go_wp2
      (go_ret; exact ⟨ret_int (by exact HR.out), ext_of (by (try simp only [ext_ext]); repeat (first | exact Bel.refl _ | assumption | refine bel_and ?_ _ | refine bel_drews ?_ _ | refine Bel.ext ?_ _ | refine Bel.alloc ?_ _ | refine Bel.drewN ?_ _))⟩)
end Go.Proofs.Ytkcpnclgcmnlcaa
