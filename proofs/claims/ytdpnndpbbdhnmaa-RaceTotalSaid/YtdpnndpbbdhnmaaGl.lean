/- Walks of the references; the orders agree; examples. -/
import Derived.Test.YtdpnndpbbdhnmaaGk
set_option linter.unusedSimpArgs false
set_option linter.unusedVariables false
namespace Go.Proofs.Ytdpnndpbbdhnmaa
open Go Go.Tx Go.Pel
theorem wrap_u64_in2 {a : Int} (h : 0 ≤ a ∧ a < 18446744073709551616) : IntKind.wrap .u64 a = a := by rw [IntKind.wrap_u64]; omega
theorem div64_00 (d : Nat) {Y g : Int} (hY : 0 ≤ Y) (hY2 : Y < 18446744073709551616) (hg : 1 ≤ g) : F_math_bits_Div64 d ((0, ()), (Y, ()), (g, ()), ()) = some (Y / g, Y % g) := by
  have c1 : (g == 0) = false := by rw [beq_eq_false_iff_ne]; omega
  have c2 : decide (g ≤ 0) = false := by rw [decide_eq_false_iff_not]; omega
  have b := Int.ediv_le_self g hY
  have b2 := Int.ediv_nonneg hY (show (0 : Int) ≤ g by omega)
  have e0 : Y.tdiv g = Y / g := Int.tdiv_eq_ediv_of_nonneg hY
  have e1 : Y.tmod g = Y % g := Int.tmod_eq_emod_of_nonneg hY
  have e : IntKind.wrap .u64 (Y / g) = Y / g := wrap_u64_in2 (by omega)
  simp only [F_math_bits_Div64, math_bits_Div64_K, math_bits_Div64_J1, math_bits_Div64_J2, math_bits_Div64_r0, math_bits_Div64_r1, math_bits_Div64_r3, math_bits_Div64_r5, math_bits_Div64_r6, Dt.eval, c1, c2, cond_false, beq_self_eq_true, cond_true, e0, e1, e]
theorem gcd_loop (d : Nat) {B : Int} : ∀ (f : Nat) (a b : Int), b < f → 0 ≤ b → b ≤ B → 1 ≤ a → a ≤ B → ∃ g, 1 ≤ g ∧ g ≤ B ∧ iter (ratio_gcd_L1 d) f (a, b) = some g
  | 0, a, b, hf, h0, _, _, _ => by omega
  | f + 1, a, b, hf, h0, hb, ha, hab => by
    have ih := gcd_loop d (B := B) f
    rw [iter]
    revert ih
    generalize iter (ratio_gcd_L1 d) f = self
    intro ih
    unfold ratio_gcd_L1
    rcases (by omega : 0 < b ∨ b = 0) with h | h
    · have m1 := Int.emod_lt_of_pos a h
      have m2 := Int.emod_nonneg a (show b ≠ 0 by omega)
      have e : a.tmod b = a % b := Int.tmod_eq_emod_of_nonneg (by omega)
      obtain ⟨g, g1, g2, g3⟩ := ih b (a % b) (by omega) m2 (by omega) (by omega) hb
      refine ⟨g, g1, g2, ?_⟩
      simp only [ratio_gcd_r1, ratio_gcd_r2, ratio_gcd_r3, Dt.eval, show decide (b > 0) = true from decide_eq_true h, cond_true, show (b == 0) = false by rw [beq_eq_false_iff_ne]; omega, cond_false, e]
      exact g3
    · subst h
      refine ⟨a, ha, hab, ?_⟩
      simp only [ratio_gcd_r1, ratio_gcd_r2, ratio_gcd_r3, Dt.eval, show decide ((0 : Int) > 0) = false from rfl, cond_false]
theorem gcd_some (d : Nat) {B a b : Int} (hd : B < d) (hb0 : 0 ≤ b) (hb : b ≤ B) (ha : 1 ≤ a) (hab : a ≤ B) : ∃ g, 1 ≤ g ∧ g ≤ B ∧ F_ratio_gcd d ((a, ()), (b, ()), ()) = some g := by
  obtain ⟨g, g1, g2, g3⟩ := gcd_loop d (B := B) d a b (by omega) hb0 hb ha hab
  refine ⟨g, g1, g2, ?_⟩
  simp only [F_ratio_gcd, ratio_gcd_r0, Dt.eval]
  exact g3
theorem plus_some (d : Nat) (n1 n2 : Bool) {P Q : Nat} (hP : P ≤ 4611686018427387904) (hQ : Q ≤ 4611686018427387904) : ∃ s R, 0 ≤ R ∧ R ≤ 9223372036854775808 ∧ F_ratio_plus d ((n1, 0, (P : Int), ()), (n2, 0, (Q : Int), ()), ()) = some (s, 0, R) := by
  have a1 : ∀ x y : Nat, x ≤ 4611686018427387904 → y ≤ 4611686018427387904 → add64V (x : Int) (y : Int) 0 = some ((x : Int) + (y : Int), 0) := fun x y hx hy => by
    unfold add64V
    rw [show (decide ((0 : Int) ≤ (x : Int)) && decide ((x : Int) < 18446744073709551616) && decide ((0 : Int) ≤ (y : Int)) && decide ((y : Int) < 18446744073709551616) && decide ((0 : Int) ≤ 0) && decide ((0 : Int) ≤ 1)) = true by simp only [Bool.and_eq_true, decide_eq_true_eq]; omega, cond_true]
    rw [show ((x : Int) + (y : Int) + 0) % 18446744073709551616 = (x : Int) + (y : Int) by omega, show ((x : Int) + (y : Int) + 0) / 18446744073709551616 = 0 by omega]
  have s1 : ∀ x y : Nat, x ≤ 4611686018427387904 → y ≤ x → sub64V (x : Int) (y : Int) 0 = some ((x : Int) - (y : Int), 0) := fun x y hx hy => by
    unfold sub64V
    rw [show (decide ((0 : Int) ≤ (x : Int)) && decide ((x : Int) < 18446744073709551616) && decide ((0 : Int) ≤ (y : Int)) && decide ((y : Int) < 18446744073709551616) && decide ((0 : Int) ≤ 0) && decide ((0 : Int) ≤ 1)) = true by simp only [Bool.and_eq_true, decide_eq_true_eq]; omega, cond_true]
    rw [show ((x : Int) - (y : Int) - 0) % 18446744073709551616 = (x : Int) - (y : Int) by omega, show decide ((x : Int) < (y : Int) + 0) = false by rw [decide_eq_false_iff_not]; omega]
    rfl
  have a0 : add64V 0 0 0 = some (0, 0) := rfl
  have s0 : sub64V 0 0 0 = some (0, 0) := rfl
  have ec : F_ratio_compare d ((n1, 0, (P : Int), ()), (n2, 0, (Q : Int), ()), ()) = some (cmpZ (P : Int) (Q : Int)) := by
    have := ratio_compare_eq d n1 n2 P Q
    rw [show ((P / 18446744073709551616 : Nat) : Int) = 0 by omega, show ((P % 18446744073709551616 : Nat) : Int) = (P : Int) by omega, show ((Q / 18446744073709551616 : Nat) : Int) = 0 by omega, show ((Q % 18446744073709551616 : Nat) : Int) = (Q : Int) by omega] at this
    exact this
  by_cases hn : n1 = n2
  · refine ⟨n1, (P : Int) + (Q : Int), by omega, by omega, ?_⟩
    subst hn
    simp only [F_ratio_plus, ratio_plus_K, ratio_plus_r0, ratio_plus_r1, ratio_plus_r2, ratio_plus_r3, ratio_plus_r4, Dt.eval, beq_self_eq_true, cond_true, a1 P Q hP hQ, a0]
  · have hb : (n1 == n2) = false := by rw [beq_eq_false_iff_ne]; exact hn
    rcases Nat.lt_or_ge P Q with h | h
    · have h1 : decide (cmpZ (P : Int) (Q : Int) < 0) = true := by rw [cmpZ_lt (by omega)]; rfl
      refine ⟨n2, (Q : Int) - (P : Int), by omega, by omega, ?_⟩
      simp only [F_ratio_plus, ratio_plus_K, ratio_plus_r0, ratio_plus_r1, ratio_plus_r2, ratio_plus_r3, ratio_plus_r4, ratio_plus_r5, ratio_plus_r6, ratio_plus_r7, ratio_plus_r8, ratio_plus_r9, ratio_plus_J1, Dt.eval, hb, cond_false, ec, h1, cond_true, s1 Q P hQ (by omega), s0]
    · have h1 : decide (cmpZ (P : Int) (Q : Int) < 0) = false := by
        rw [decide_eq_false_iff_not]
        rcases ltZ (P : Int) (Q : Int) with ⟨k1, k2⟩ | ⟨k1, k2⟩ | ⟨k1, k2⟩ <;> omega
      refine ⟨n1, (P : Int) - (Q : Int), by omega, by omega, ?_⟩
      simp only [F_ratio_plus, ratio_plus_K, ratio_plus_r0, ratio_plus_r1, ratio_plus_r2, ratio_plus_r3, ratio_plus_r4, ratio_plus_r5, ratio_plus_r6, ratio_plus_r7, ratio_plus_r8, ratio_plus_r9, ratio_plus_J1, Dt.eval, hb, cond_false, ec, h1, s1 P Q hP h, s0]
theorem over_some (d : Nat) (s : Bool) {R g : Int} (h0 : 0 ≤ R) (hR : R ≤ 9223372036854775808) (hg : 1 ≤ g) : F_ratio_wide_over d ((s, 0, R, ()), (g, ()), ()) = some (s, 0, R / g, R % g) := by
  have c1 : (g == 0) = false := by rw [beq_eq_false_iff_ne]; omega
  have e := div64_00 d h0 (show R < 18446744073709551616 by omega) hg
  simp only [F_ratio_wide_over, ratio_wide_over_K, ratio_wide_over_r0, ratio_wide_over_r1, ratio_wide_over_r2, ratio_wide_over_r3, Dt.eval, c1, cond_false, Int.zero_tdiv, Int.zero_tmod, show IntKind.wrap .u64 0 = 0 from rfl, e]
theorem build_some (d : Nat) (x : ratio_build_X) : ∃ v, F_ratio_build d x = some v := by
  obtain ⟨⟨s, hi, lo, ⟨⟩⟩, ⟨dh, ⟨⟩⟩, ⟨dl, ⟨⟩⟩, ⟨⟩⟩ := x
  simp only [F_ratio_build, ratio_build_K, ratio_build_r0, ratio_build_r1, ratio_build_r2, ratio_build_r3, ratio_build_r4, ratio_build_r5, ratio_build_r6, ratio_build_J1, Dt.eval]
  cases decide (hi > 0) <;> cases decide (lo > 9223372036854775807) <;> cases decide (dh > 0) <;> cases decide (dl > 9223372036854775807) <;> cases s <;> exact ⟨_, rfl⟩
theorem nab {a b : Int} {A B : Nat} (ha : a.natAbs ≤ A) (hb : b.natAbs ≤ B) : (a * b).natAbs ≤ A * B := by rw [Int.natAbs_mul]; exact Nat.mul_le_mul ha hb
theorem times_small (d : Nat) {a b : Int} (ha : a.natAbs ≤ 1073741824) (hb : b.natAbs ≤ 4194304) : ∃ s, F_ratio_times d ((a, ()), (b, ()), ()) = some (s, 0, ((a * b).natAbs : Int)) := by
  have e := times_eq d a b (i64B_of (by omega)) (i64B_of (by omega))
  have h := nab ha hb
  rw [show (((a * b).natAbs / 18446744073709551616 : Nat) : Int) = 0 by omega, show (((a * b).natAbs % 18446744073709551616 : Nat) : Int) = ((a * b).natAbs : Int) by omega] at e
  exact ⟨_, e⟩
set_option maxHeartbeats 2000000 in
theorem add_some (d : Nat) (hd : 4194400 ≤ d) {n1 d1 n2 d2 : Int} (h1 : ratioChk n1 d1 = 0) (h2 : ratioChk n2 d2 = 0) (b1 : n1.natAbs ≤ 1073741824) (b2 : n2.natAbs ≤ 1073741824) (c1 : d1 ≤ 4194304) (c2 : d2 ≤ 4194304) : ∃ v, F_ratio_Add d ((n1, d1, ()), (n2, d2, ()), ()) = some v := by
  have o1 := (ratioChk_zero h1).1
  have o2 := (ratioChk_zero h2).1
  have e1 := both_eq d n1 d1 n2 d2 (i64B_of (by omega)) (i64B_of (by omega)) (i64B_of (by omega)) (i64B_of (by omega))
  rw [h1, h2] at e1
  obtain ⟨G, g1, g2, e2⟩ := gcd_some d (B := 4194304) (a := d1) (b := d2) (by omega) (by omega) c2 o1 c1
  have q2 : d2.tdiv G = d2 / G := Int.tdiv_eq_ediv_of_nonneg (by omega)
  have q1 : d1.tdiv G = d1 / G := Int.tdiv_eq_ediv_of_nonneg (by omega)
  have r2 := Int.ediv_le_self G (show 0 ≤ d2 by omega)
  have r2' := Int.ediv_nonneg (show 0 ≤ d2 by omega) (show 0 ≤ G by omega)
  have r1 := Int.ediv_le_self G (show 0 ≤ d1 by omega)
  have r1' := Int.ediv_nonneg (show 0 ≤ d1 by omega) (show 0 ≤ G by omega)
  obtain ⟨s1, e3⟩ := times_small d (a := n1) (b := d2 / G) b1 (by omega)
  obtain ⟨s2, e4⟩ := times_small d (a := n2) (b := d1 / G) b2 (by omega)
  have p1 := nab b1 (show (d2 / G).natAbs ≤ 4194304 by omega)
  have p2 := nab b2 (show (d1 / G).natAbs ≤ 4194304 by omega)
  obtain ⟨s, R, R0, R1, e5⟩ := plus_some d s1 s2 (P := (n1 * (d2 / G)).natAbs) (Q := (n2 * (d1 / G)).natAbs) (by omega) (by omega)
  have e6 := over_some d s R0 R1 g1
  have m1 := Int.emod_lt_of_pos R (show 0 < G by omega)
  have m2 := Int.emod_nonneg R (show G ≠ 0 by omega)
  obtain ⟨H, k1, k2, e7⟩ := gcd_some d (B := 4194304) (a := G) (b := R % G) (by omega) m2 (by omega) g1 g2
  have e8 := over_some d s R0 R1 k1
  have t2 : d2.tdiv H = d2 / H := Int.tdiv_eq_ediv_of_nonneg (by omega)
  have u2 := Int.ediv_le_self H (show 0 ≤ d2 by omega)
  have u2' := Int.ediv_nonneg (show 0 ≤ d2 by omega) (show 0 ≤ H by omega)
  have e9 : F_math_bits_Mul64 d ((d1 / G, ()), (d2 / H, ()), ()) = some ((d1 / G * (d2 / H)) / 18446744073709551616, (d1 / G * (d2 / H)) % 18446744073709551616) :=
    F_math_bits_Mul64_eq _ _ (show (u64B (d1 / G) && u64B (d2 / H)) = true by unfold u64B; simp only [Bool.and_eq_true, decide_eq_true_eq]; omega)
  obtain ⟨v, e10⟩ := build_some d ((s, 0, R / H, ()), ((d1 / G * (d2 / H)) / 18446744073709551616, ()), ((d1 / G * (d2 / H)) % 18446744073709551616, ()), ())
  refine ⟨(v.1, v.2.1, v.2.2), ?_⟩
  · simp only [F_ratio_Add, ratio_Add_r0, ratio_Add_r1, ratio_Add_K, Dt.eval, e1, show tmax (0 : Int) 0 = 0 from rfl]
    simp only [ratio_Add_r2, Dt.eval, show ((0 : Int) != 0) = false from rfl, cond_false]
    simp only [ratio_Add_r4, ratio_Add_K, Dt.eval, wrap_u64_in2 (show 0 ≤ d1 ∧ d1 < 18446744073709551616 by omega), wrap_u64_in2 (show 0 ≤ d2 ∧ d2 < 18446744073709551616 by omega), e2, show IntKind.wrap .i64 G = G from IntWalk.i64_in _ (by omega)]
    simp only [ratio_Add_r5, ratio_Add_K, Dt.eval, show (G == 0) = false by rw [beq_eq_false_iff_ne]; omega, cond_false, q1, q2, show IntKind.wrap .i64 (d2 / G) = d2 / G from IntWalk.i64_in _ (by omega), show IntKind.wrap .i64 (d1 / G) = d1 / G from IntWalk.i64_in _ (by omega), e3, e4, e5]
    simp only [ratio_Add_r6, ratio_Add_K, Dt.eval, wrap_u64_in2 (show 0 ≤ G ∧ G < 18446744073709551616 by omega), e6]
    simp only [ratio_Add_r7, ratio_Add_K, Dt.eval, wrap_u64_in2 (show 0 ≤ G ∧ G < 18446744073709551616 by omega), e7]
    simp only [ratio_Add_r8, ratio_Add_K, Dt.eval, e8]
    simp only [ratio_Add_r9, ratio_Add_K, Dt.eval, show (G == 0) = false by rw [beq_eq_false_iff_ne]; omega, show (H == 0) = false by rw [beq_eq_false_iff_ne]; omega, cond_false, q1, show IntKind.wrap .i64 (d1 / G) = d1 / G from IntWalk.i64_in _ (by omega), wrap_u64_in2 (show 0 ≤ d1 / G ∧ d1 / G < 18446744073709551616 by omega), wrap_u64_in2 (show 0 ≤ d2 ∧ d2 < 18446744073709551616 by omega), t2, wrap_u64_in2 (show 0 ≤ d2 / H ∧ d2 / H < 18446744073709551616 by omega), e9]
    simp only [ratio_Add_r10, ratio_Add_K, Dt.eval, e10]
theorem ratioChk_neg {n d : Int} (h : ratioChk n d = 0) (hb : n.natAbs ≤ 1073741824) : ratioChk (-n) d = 0 := by
  obtain ⟨h1, _, h3⟩ := ratioChk_zero h
  exact ratioChk_one h1 (by omega) (by rw [Int.natAbs_neg]; exact h3)
theorem sub_some (d : Nat) (hd : 4194400 ≤ d) {n1 d1 n2 d2 : Int} (h1 : ratioChk n1 d1 = 0) (h2 : ratioChk n2 d2 = 0) (b1 : n1.natAbs ≤ 1073741824) (b2 : n2.natAbs ≤ 1073741824) (c1 : d1 ≤ 4194304) (c2 : d2 ≤ 4194304) : ∃ v, F_ratio_Sub d ((n1, d1, ()), (n2, d2, ()), ()) = some v := by
  have o1 := (ratioChk_zero h1).1
  have o2 := (ratioChk_zero h2).1
  have e1 := both_eq d n1 d1 n2 d2 (i64B_of (by omega)) (i64B_of (by omega)) (i64B_of (by omega)) (i64B_of (by omega))
  rw [h1, h2] at e1
  obtain ⟨v, e2⟩ := add_some d hd h1 (ratioChk_neg h2 b2) b1 (by rw [Int.natAbs_neg]; exact b2) c1 c2
  have w : IntKind.wrap .i64 (0 - n2) = -n2 := by rw [IntWalk.i64_in _ (by omega)]; omega
  refine ⟨(v.1, v.2.1, v.2.2), ?_⟩
  · simp only [F_ratio_Sub, ratio_Sub_r0, ratio_Sub_r1, ratio_Sub_K, Dt.eval, e1, show tmax (0 : Int) 0 = 0 from rfl]
    simp only [ratio_Sub_r2, Dt.eval, show ((0 : Int) != 0) = false from rfl, cond_false]
    simp only [ratio_Sub_r4, Dt.eval, w]
    simp only [ratio_Sub_r5, ratio_Sub_K, Dt.eval, e2]
end Go.Proofs.Ytdpnndpbbdhnmaa

namespace Go.Pel
open Go Go.Tx
theorem countP_disj {α : Type} {P Q : α → Bool} (h : ∀ x, ¬ (P x = true ∧ Q x = true)) : ∀ l : List α, l.countP (fun x => P x || Q x) = l.countP P + l.countP Q
  | [] => rfl
  | x :: l => by
    rw [List.countP_cons, List.countP_cons, List.countP_cons, countP_disj h l]
    have hx := h x
    cases hP : P x <;> cases hQ : Q x
    · simp
    · simp; omega
    · simp; omega
    · exact absurd ⟨hP, hQ⟩ hx
theorem countP_one {a : Int} : ∀ {l : List T3}, (l.Pairwise fun p q => p.1 < q.1) → (∃ p ∈ l, p.1 = a) → l.countP (fun p => decide (p.1 = a)) = 1
  | [], _, ⟨p, hp, _⟩ => by cases hp
  | x :: l, h, ⟨p, hp, e⟩ => by
    obtain ⟨h1, h2⟩ := List.pairwise_cons.1 h
    rw [List.countP_cons]
    by_cases hx : x.1 = a
    · rw [if_pos (decide_eq_true hx)]
      have : l.countP (fun p => decide (p.1 = a)) = 0 := by
        rw [List.countP_eq_zero]
        intro q hq
        have := h1 q hq
        rw [decide_eq_true_eq]; omega
      omega
    · rw [if_neg (by rw [decide_eq_true_eq]; exact hx)]
      rcases List.mem_cons.1 hp with rfl | hp
      · exact absurd e hx
      · rw [countP_one h2 ⟨p, hp, e⟩]
theorem count_ids {l : List T3} (hl : l.Pairwise fun p q => p.1 < q.1) : ∀ {A : List Int}, A.Nodup → (∀ a ∈ A, ∃ p ∈ l, p.1 = a) → l.countP (fun p => decide (p.1 ∈ A)) = A.length
  | [], _, _ => by rw [List.countP_eq_zero.2]; rfl; intro p _; simp
  | a :: A, hn, hs => by
    obtain ⟨h1, h2⟩ := List.nodup_cons.1 hn
    have e1 := count_ids hl h2 fun b hb => hs b (List.mem_cons_of_mem _ hb)
    have e2 := countP_one hl (hs a (List.mem_cons_self ..))
    have e3 := countP_disj (P := fun p : T3 => decide (p.1 = a)) (Q := fun p : T3 => decide (p.1 ∈ A)) (fun x ⟨q1, q2⟩ => by
      rw [decide_eq_true_eq] at q1 q2
      rw [q1] at q2; exact h1 q2) l
    have e4 : (fun p : T3 => decide (p.1 ∈ a :: A)) = fun p : T3 => (decide (p.1 = a) || decide (p.1 ∈ A)) := by
      funext p
      rw [Bool.eq_iff_iff]
      simp
    rw [e4, e3, e1, e2, List.length_cons]; omega
/-- numbers that are small enough to be taken from one another -/
def smL (a : List T3) : Prop := ∀ x ∈ a, x.1.natAbs ≤ 1073741824 ∧ x.2.1 ≤ 4194304
theorem crest_sm {l : List T3} (h : FldOk l) {p : T3} {n dd : Int} {a : List T3} (ha : Crest l p n dd a) (hn : n.natAbs ≤ 1073741824) (hd : dd ≤ 4194304) (hp : p ∈ l) : smL a := by
  induction ha with
  | last p n dd _ =>
    intro x hx
    rw [List.mem_singleton] at hx
    subst hx
    exact ⟨hn, hd⟩
  | next p n dd n' dd' p' r h1 h2 _ ih =>
    obtain ⟨g1, g2, g3⟩ := h1.ok h hp
    intro x hx
    rcases List.mem_cons.1 hx with rfl | hx
    · exact ⟨hn, hd⟩
    · exact ih (by omega) g3 h2.1 x hx
theorem speeds_lt {ps : List T3} (h4 : ∀ (i : Nat) (q q' : T3), ps[i]? = some q → ps[i + 1]? = some q' → q.2.2.1 < q'.2.2.1) : ∀ (m i : Nat) (q q' : T3), ps[i]? = some q → ps[i + m + 1]? = some q' → q.2.2.1 < q'.2.2.1
  | 0, i, q, q', h, h' => h4 i q q' h h'
  | m + 1, i, q, q', h, h' => by
    have hl := (List.getElem?_eq_some_iff.1 h').1
    obtain ⟨z, hz⟩ : ∃ z, ps[i + m + 1]? = some z := ⟨_, List.getElem?_eq_getElem (by omega)⟩
    have h1 := speeds_lt h4 m i q z h hz
    have h2 := h4 (i + m + 1) z q' hz h'
    omega
end Go.Pel
namespace Go.Proofs.Ytdpnndpbbdhnmaa
open Go Go.Tx Go.Pel
theorem timeB (d : Nat) {L : List T5} {id : Int} (hlen : L.length ≤ 1000) (hno : ∀ w ∈ L, w.2.2.2.2.1 ≠ id) : ∀ (f i : Nat), L.length - i < f → iter (race_Time_L1 d) f (id, (L.length : Int), (i : Int), (0 : Int), (0 : Int), L) = some (0, 1, 0)
  | 0, i, hf => by omega
  | f + 1, i, hf => by
    have ih := timeB d hlen hno f (i + 1)
    rw [iter]
    revert ih
    generalize iter (race_Time_L1 d) f = self
    intro ih
    unfold race_Time_L1
    by_cases hlt : i < L.length
    · obtain ⟨w, hw⟩ : ∃ w, L[i]? = some w := ⟨_, List.getElem?_eq_getElem hlt⟩
      have hne := hno w (List.mem_of_getElem? hw)
      simp only [race_Time_r9, Dt.eval, dec_lt hlt, cond_true]
      simp only [race_Time_r10, Dt.eval, inB_of hlt, cond_true, elt_some hw]
      simp only [race_Time_r11, Dt.eval, show (w.2.2.2.2.1 == id) = false by rw [beq_eq_false_iff_ne]; exact hne, cond_false]
      simp only [race_Time_r13, Dt.eval, wrap_succ (show i < 1000000 by omega)]
      exact ih (by omega)
    · simp only [race_Time_r9, Dt.eval, dec_nlt hlt, cond_false, race_Time_r14]
theorem timeA (d : Nat) {L : List T5} {id : Int} (hlen : L.length ≤ 1000) {k0 : Nat} {w0 : T5} (hk : L[k0]? = some w0) (hid : w0.2.2.2.2.1 = id) (hno : ∀ (j : Nat) (w : T5), j < k0 → L[j]? = some w → w.2.2.2.2.1 ≠ id) {v : Int × Int × Int} (hs : F_ratio_Sub d ((w0.2.2.1, w0.2.2.2.1, ()), (w0.1, w0.2.1, ()), ()) = some v) : ∀ (f i : Nat), L.length - i < f → i ≤ k0 → iter (race_Time_L1 d) f (id, (L.length : Int), (i : Int), (0 : Int), (0 : Int), L) = some v
  | 0, i, hf, _ => by omega
  | f + 1, i, hf, hi => by
    have ih := timeA d hlen hk hid hno hs f (i + 1)
    have hkl := (List.getElem?_eq_some_iff.1 hk).1
    have hlt : i < L.length := by omega
    rw [iter]
    revert ih
    generalize iter (race_Time_L1 d) f = self
    intro ih
    unfold race_Time_L1
    obtain ⟨w, hw⟩ : ∃ w, L[i]? = some w := ⟨_, List.getElem?_eq_getElem hlt⟩
    simp only [race_Time_r9, Dt.eval, dec_lt hlt, cond_true]
    simp only [race_Time_r10, Dt.eval, inB_of hlt, cond_true, elt_some hw]
    rcases Nat.lt_or_eq_of_le hi with h | h
    · have hne := hno i w h hw
      simp only [race_Time_r11, Dt.eval, show (w.2.2.2.2.1 == id) = false by rw [beq_eq_false_iff_ne]; exact hne, cond_false]
      simp only [race_Time_r13, Dt.eval, wrap_succ (show i < 1000000 by omega)]
      exact ih (by omega) h
    · subst h
      rw [hk] at hw; injection hw with hw; subst hw
      simp only [race_Time_r11, Dt.eval, show (w0.2.2.2.2.1 == id) = true by rw [beq_iff_eq]; exact hid, cond_true]
      simp only [race_Time_r12, race_Time_K, Dt.eval, hs]
theorem time_head (d : Nat) {l : List T3} (hok : FldOk l) (h0 : fieldChk (ptsL l) = 0) {n dd n1 d1 : Int} (hn : i64B n = true) (hd : i64B dd = true) (hn1 : i64B n1 = true) (hd1 : i64B d1 = true) (hc : chk2 l n dd n1 d1 = 0) {p : T3} (hp : p ∈ l) {L : List T5} (hL : F_race_Reigns d ((l, ()), (n, dd, ()), (n1, d1, ()), ()) = some (L, 0)) : F_race_Time d ((l, ()), (p.1, ()), (n, dd, ()), (n1, d1, ()), ()) = iter (race_Time_L1 d) d (p.1, (L.length : Int), (0 : Int), (0 : Int), (0 : Int), L) := by
  have e1 := rcheck_eq d l hn hd hn1 hd1
  rw [hc] at e1
  have e2 := find_at d hok h0 hp
  have b0 : ((0 : Int) != 0) = false := rfl
  simp only [F_race_Time, race_Time_r0, race_Time_r1, race_Time_K, Dt.eval, e1]
  simp only [race_Time_r2, Dt.eval, b0, cond_false]
  simp only [race_Time_r4, race_Time_K, Dt.eval, e2]
  simp only [race_Time_r5, Dt.eval, b0, cond_false]
  simp only [race_Time_r7, race_Time_K, Dt.eval, hL]
  simp only [race_Time_r8, Dt.eval]
theorem asked01 (d : Nat) {n dd : Int} (hn : i64B n = true) (hd : i64B dd = true) : ∃ v, F_ref01_Asked d ((n, dd, ()), ()) = some v ∧ (v = 0 → ratioChk n dd = 0 ∧ n.natAbs ≤ 1073741824 ∧ dd ≤ 1024) := by
  have e1 := rChk_eq d hn hd
  rcases ratioChk_08 n dd with h1 | h1
  · by_cases g1 : n > 1073741824
    · refine ⟨2, ?_, fun h => by cases h⟩
      simp only [F_ref01_Asked, ref01_Asked_K, ref01_Asked_r0, ref01_Asked_r1, ref01_Asked_r2, ref01_Asked_r3, ref01_Asked_r4, ref01_Asked_r5, Dt.eval, e1, h1, show ((0 : Int) != 0) = false from rfl, cond_false, decide_eq_true g1, cond_true]
    · by_cases g2 : n < -1073741824
      · refine ⟨2, ?_, fun h => by cases h⟩
        simp only [F_ref01_Asked, ref01_Asked_K, ref01_Asked_r0, ref01_Asked_r1, ref01_Asked_r2, ref01_Asked_r3, ref01_Asked_r4, ref01_Asked_r5, Dt.eval, e1, h1, show ((0 : Int) != 0) = false from rfl, cond_false, decide_eq_false g1, decide_eq_true g2, cond_true]
      · by_cases g3 : dd > 1024
        · refine ⟨2, ?_, fun h => by cases h⟩
          simp only [F_ref01_Asked, ref01_Asked_K, ref01_Asked_r0, ref01_Asked_r1, ref01_Asked_r2, ref01_Asked_r3, ref01_Asked_r4, ref01_Asked_r5, Dt.eval, e1, h1, show ((0 : Int) != 0) = false from rfl, cond_false, decide_eq_false g1, decide_eq_false g2, decide_eq_true g3, cond_true]
        · refine ⟨0, ?_, fun _ => ⟨h1, by omega, by omega⟩⟩
          simp only [F_ref01_Asked, ref01_Asked_K, ref01_Asked_r0, ref01_Asked_r1, ref01_Asked_r2, ref01_Asked_r3, ref01_Asked_r4, ref01_Asked_r5, Dt.eval, e1, h1, show ((0 : Int) != 0) = false from rfl, cond_false, decide_eq_false g1, decide_eq_false g2, decide_eq_false g3]
  · refine ⟨8, ?_, fun h => by cases h⟩
    simp only [F_ref01_Asked, ref01_Asked_K, ref01_Asked_r0, ref01_Asked_r1, ref01_Asked_r2, ref01_Asked_r3, ref01_Asked_r4, ref01_Asked_r5, Dt.eval, e1, h1, show ((8 : Int) != 0) = true from rfl, cond_true]
abbrev tS1 : Type := Bool × Int × Int × List Diii × Int × Int × Int × Int × List Diiiii
set_option maxHeartbeats 4000000 in
theorem tot_rest (d : Nat) {l : List T3} {L : List T5} (hl64 : l.length ≤ 64) (hlen : L.length ≤ 1000) (self1 : tS1 → Option law24_RaceTotal_R) {c i : Nat} {p : T3} (hp : l[i]? = some p) {g x1 x2 n dd n1 d1 : Int} {b : Bool} (hb : b = true ∨ (g = 0 ∧ x1 = 0 ∧ x2 = 1)) : ∀ (f k : Nat), L.length - k < f → (∀ (j : Nat) (w : T5), k ≤ j → L[j]? = some w → w.2.2.2.2.1 ≠ p.1) →
    iter (law24_RaceTotal_L2 d self1) f (true, (c : Int), (i : Int), g, b, (k : Int), l, n, dd, n1, d1, L, x1, x2) = self1 (true, (c : Int), ((i + 1 : Nat) : Int), l, n, dd, n1, d1, L)
  | 0, k, hf, _ => by omega
  | f + 1, k, hf, hno => by
    have ih := tot_rest d hl64 hlen self1 hp (c := c) (g := g) (x1 := x1) (x2 := x2) (n := n) (dd := dd) (n1 := n1) (d1 := d1) hb f (k + 1)
    have hil := (List.getElem?_eq_some_iff.1 hp).1
    rw [iter]
    revert ih
    generalize iter (law24_RaceTotal_L2 d self1) f = self
    intro ih
    unfold law24_RaceTotal_L2
    by_cases hlt : k < L.length
    · obtain ⟨w, hw⟩ : ∃ w, L[k]? = some w := ⟨_, List.getElem?_eq_getElem hlt⟩
      have hne := hno k w (Nat.le_refl _) hw
      simp only [law24_RaceTotal_r14, Dt.eval, dec_lt hlt, cond_true]
      simp only [law24_RaceTotal_r16, Dt.eval, inB_of hlt, inB_of hil, cond_true, elt_some hw, elt_some hp, show (w.2.2.2.2.1 != p.1) = true by rw [bne_iff_ne]; exact hne]
      simp only [law24_RaceTotal_J3, law24_RaceTotal_r15, Dt.eval, wrap_succ (show k < 1000000 by omega)]
      exact ih (by omega) fun j w' hj hw' => hno j w' (by omega) hw'
    · have wi := wrap_succ (show i < 1000000 by omega)
      have e1 : F_law24_at d ((0, ()), ()) = some (0, 1) := by simp only [F_law24_at, law24_at_K, law24_at_r0, law24_at_r1, Dt.eval]
      simp only [law24_RaceTotal_r14, Dt.eval, dec_nlt hlt, cond_false]
      cases b with
      | true =>
        simp only [law24_RaceTotal_r22, Dt.eval, Bool.not_true, cond_false]
        simp only [law24_RaceTotal_r10, Dt.eval, wi]
      | false =>
        rcases hb with hb | ⟨rfl, rfl, rfl⟩
        · cases hb
        · simp only [law24_RaceTotal_r22, law24_RaceTotal_K, Dt.eval, Bool.not_false, cond_true, show ((0 : Int) != 0) = false from rfl, cond_false, e1, beq_self_eq_true, Bool.and_self, Bool.not_true]
          simp only [law24_RaceTotal_r10, Dt.eval, wi]
set_option maxHeartbeats 4000000 in
theorem tot_hit (d : Nat) {l : List T3} {L : List T5} (hl64 : l.length ≤ 64) (hlen : L.length ≤ 1000) (self1 : tS1 → Option law24_RaceTotal_R) {c i : Nat} (hc : c ≤ 1000) {p : T3} (hp : l[i]? = some p) {n dd n1 d1 : Int} {k0 : Nat} {w0 : T5} (hk : L[k0]? = some w0) (hid : w0.2.2.2.2.1 = p.1) (hun : ∀ (j : Nat) (w : T5), j ≠ k0 → L[j]? = some w → w.2.2.2.2.1 ≠ p.1) {v : Int × Int × Int} (hs : F_ratio_Sub d ((w0.2.2.1, w0.2.2.2.1, ()), (w0.1, w0.2.1, ()), ()) = some v) : ∀ (f k : Nat), L.length - k < f → k ≤ k0 →
    iter (law24_RaceTotal_L2 d self1) f (true, (c : Int), (i : Int), v.2.2, false, (k : Int), l, n, dd, n1, d1, L, v.1, v.2.1) = self1 (true, ((c + 1 : Nat) : Int), ((i + 1 : Nat) : Int), l, n, dd, n1, d1, L)
  | 0, k, hf, _ => by omega
  | f + 1, k, hf, hk0 => by
    have ih := tot_hit d hl64 hlen self1 hc hp (n := n) (dd := dd) (n1 := n1) (d1 := d1) hk hid hun hs f (k + 1)
    have hrest := tot_rest d hl64 hlen self1 (c := c + 1) hp (g := v.2.2) (x1 := v.1) (x2 := v.2.1) (n := n) (dd := dd) (n1 := n1) (d1 := d1) (b := true) (.inl rfl) f (k0 + 1)
    have hil := (List.getElem?_eq_some_iff.1 hp).1
    have hkl := (List.getElem?_eq_some_iff.1 hk).1
    have hlt : k < L.length := by omega
    rw [iter]
    revert ih hrest
    generalize iter (law24_RaceTotal_L2 d self1) f = self
    intro ih hrest
    unfold law24_RaceTotal_L2
    obtain ⟨w, hw⟩ : ∃ w, L[k]? = some w := ⟨_, List.getElem?_eq_getElem hlt⟩
    simp only [law24_RaceTotal_r14, Dt.eval, dec_lt hlt, cond_true]
    rcases Nat.lt_or_eq_of_le hk0 with h | h
    · have hne := hun k w (by omega) hw
      simp only [law24_RaceTotal_r16, Dt.eval, inB_of hlt, inB_of hil, cond_true, elt_some hw, elt_some hp, show (w.2.2.2.2.1 != p.1) = true by rw [bne_iff_ne]; exact hne]
      simp only [law24_RaceTotal_J3, law24_RaceTotal_r15, Dt.eval, wrap_succ (show k < 1000000 by omega)]
      exact ih (by omega) h
    · subst h
      rw [hk] at hw; injection hw with hw; subst hw
      simp only [law24_RaceTotal_r16, Dt.eval, inB_of hlt, inB_of hil, cond_true, elt_some hk, elt_some hp, show (w0.2.2.2.2.1 != p.1) = false by rw [hid, bne_self_eq_false], cond_false]
      simp only [law24_RaceTotal_r17, Dt.eval]
      simp only [law24_RaceTotal_r18, Dt.eval, wrap_succ (show c < 1000000 by omega)]
      simp only [law24_RaceTotal_r19, law24_RaceTotal_K, Dt.eval, inB_of hlt, cond_true, elt_some hk, hs]
      simp only [law24_RaceTotal_r20, Dt.eval, bne_self_eq_false, cond_false, beq_self_eq_true, Bool.and_self, Bool.not_true]
      simp only [law24_RaceTotal_J3, law24_RaceTotal_r15, Dt.eval, wrap_succ (show k < 1000000 by omega)]
      exact hrest (by omega) fun j w' hj hw' => hun j w' (by omega) hw'
theorem tot_ends (d : Nat) {n dd n1 d1 : Int} {L : List T5} (hlen : L.length ≤ 1000) (hpos : 0 < L.length) (hlk : ∀ (j : Nat) (v w : T5), L[j]? = some v → L[j + 1]? = some w → v.2.2.1 = w.1 ∧ v.2.2.2.1 = w.2.1) {w0 wl : T5} (h0 : L[0]? = some w0) (hw0 : w0.1 = n ∧ w0.2.1 = dd) (hl : L[L.length - 1]? = some wl) (hwl : wl.2.2.1 = n1 ∧ wl.2.2.2.1 = d1) : ∀ (f k : Nat), L.length - k < f → 1 ≤ k → iter (law24_RaceTotal_L4 d) f (true, (k : Int), n, dd, n1, d1, L) = some true
  | 0, k, hf, _ => by omega
  | f + 1, k, hf, hk => by
    have ih := tot_ends d hlen hpos hlk h0 hw0 hl hwl f (k + 1)
    rw [iter]
    revert ih
    generalize iter (law24_RaceTotal_L4 d) f = self
    intro ih
    unfold law24_RaceTotal_L4
    by_cases hlt : k < L.length
    · obtain ⟨w, hw⟩ : ∃ w, L[k]? = some w := ⟨_, List.getElem?_eq_getElem hlt⟩
      obtain ⟨v, hv⟩ : ∃ v, L[k - 1]? = some v := ⟨_, List.getElem?_eq_getElem (by omega)⟩
      obtain ⟨g1, g2⟩ := hlk (k - 1) v w hv (by rw [show k - 1 + 1 = k by omega]; exact hw)
      have wk : IntKind.wrap .i64 ((k : Int) - 1) = ((k - 1 : Nat) : Int) := by rw [IntWalk.i64_in _ (by omega)]; omega
      simp only [law24_RaceTotal_r27, Dt.eval, dec_lt hlt, cond_true]
      simp only [law24_RaceTotal_r29, Dt.eval, wk, inB_of (show k - 1 < L.length by omega), inB_of hlt, cond_true, elt_some hv, elt_some hw, g1, g2, beq_self_eq_true, Bool.and_self, Bool.not_true, cond_false]
      simp only [law24_RaceTotal_r28, Dt.eval, wrap_succ (show k < 1000000 by omega)]
      exact ih (by omega) (by omega)
    · have wl' : IntKind.wrap .i64 ((L.length : Int) - 1) = ((L.length - 1 : Nat) : Int) := by rw [IntWalk.i64_in _ (by omega)]; omega
      simp only [law24_RaceTotal_r27, Dt.eval, dec_nlt hlt, cond_false]
      simp only [law24_RaceTotal_r31, Dt.eval, cond_true, show decide ((L.length : Int) > 0) = true by rw [decide_eq_true_eq]; omega, show inB (0 : Int) L.length = true from inB_of (k := 0) hpos, show elt ziiiii L (0 : Int).toNat = w0 from elt_some (k := 0) h0, hw0.1, hw0.2, beq_self_eq_true, Bool.and_self, wl', inB_of (show L.length - 1 < L.length by omega), elt_some hl, hwl.1, hwl.2]
theorem take_count {l : List T3} {P : T3 → Bool} {i : Nat} {p : T3} (hp : l[i]? = some p) : (l.take (i + 1)).countP P = (l.take i).countP P + (if P p = true then 1 else 0) := by
  rw [List.take_add_one, hp, List.countP_append]
  simp
set_option maxHeartbeats 4000000 in
theorem tot_outer (d : Nat) (hf5 : 4194400 ≤ d) {l : List T3} (hok : FldOk l) (h0 : fieldChk (ptsL l) = 0) {n dd n1 d1 : Int} (hn : i64B n = true) (hd : i64B dd = true) (hn1 : i64B n1 = true) (hd1 : i64B d1 = true) (hc : chk2 l n dd n1 d1 = 0) {L : List T5} (hL : F_race_Reigns d ((l, ()), (n, dd, ()), (n1, d1, ()), ()) = some (L, 0)) (hlen : L.length ≤ 1000) (hpos : 0 < L.length) (hlk : ∀ (j : Nat) (v w : T5), L[j]? = some v → L[j + 1]? = some w → v.2.2.1 = w.1 ∧ v.2.2.2.1 = w.2.1)
    {w0 wl : T5} (hw0 : L[0]? = some w0) (hv0 : w0.1 = n ∧ w0.2.1 = dd) (hwl : L[L.length - 1]? = some wl) (hvl : wl.2.2.1 = n1 ∧ wl.2.2.2.1 = d1) (hdis : ∀ (j k : Nat) (v w : T5), j ≠ k → L[j]? = some v → L[k]? = some w → v.2.2.2.2.1 ≠ w.2.2.2.2.1) (hsub : ∀ w ∈ L, ∃ v, F_ratio_Sub d ((w.2.2.1, w.2.2.2.1, ()), (w.1, w.2.1, ()), ()) = some v) (hcnt : l.countP (fun p => decide (p.1 ∈ L.map fun w => w.2.2.2.2.1)) = L.length) : ∀ (f i c : Nat), l.length - i < f → i ≤ l.length → c = (l.take i).countP (fun p => decide (p.1 ∈ L.map fun w => w.2.2.2.2.1)) →
    iter (law24_RaceTotal_L1 d) f (true, (c : Int), (i : Int), l, n, dd, n1, d1, L) = some true
  | 0, i, c, hf, _, _ => by omega
  | f + 1, i, c, hf, hi, hcc => by
    have ih := fun c => tot_outer d hf5 hok h0 hn hd hn1 hd1 hc hL hlen hpos hlk hw0 hv0 hwl hvl hdis hsub hcnt f (i + 1) c
    have hl64 := hok.len
    have hcl : c ≤ 1000 := by
      have := List.countP_le_length (p := fun p : T3 => decide (p.1 ∈ L.map fun w => w.2.2.2.2.1)) (l := l.take i)
      rw [List.length_take] at this
      omega
    rw [iter]
    revert ih
    generalize iter (law24_RaceTotal_L1 d) f = self
    intro ih
    unfold law24_RaceTotal_L1
    by_cases hlt : i < l.length
    · obtain ⟨p, hp⟩ : ∃ p, l[i]? = some p := ⟨_, List.getElem?_eq_getElem hlt⟩
      have hpm := List.mem_of_getElem? hp
      have eh := time_head d hok h0 hn hd hn1 hd1 hc hpm hL
      have etk := take_count (P := fun p : T3 => decide (p.1 ∈ L.map fun w => w.2.2.2.2.1)) hp
      by_cases hit : ∃ (k0 : Nat) (w0 : T5), L[k0]? = some w0 ∧ w0.2.2.2.2.1 = p.1
      · obtain ⟨k0, z0, hk0, hid⟩ := hit
        obtain ⟨v, hv⟩ := hsub z0 (List.mem_of_getElem? hk0)
        have eA := timeA d hlen hk0 hid (fun j w hj hw => by rw [← hid]; exact hdis j k0 w z0 (by omega) hw hk0) hv d 0 (by omega) (by omega)
        have et := eh.trans eA
        have hmem : decide (p.1 ∈ L.map fun w => w.2.2.2.2.1) = true := decide_eq_true (List.mem_map.2 ⟨z0, List.mem_of_getElem? hk0, hid⟩)
        rw [if_pos hmem] at etk
        have e2 := tot_hit d hl64 hlen self (c := c) hcl hp (n := n) (dd := dd) (n1 := n1) (d1 := d1) hk0 hid (fun j w hj hw => by rw [← hid]; exact hdis j k0 w z0 hj hw hk0) hv d 0 (by omega) (by omega)
        simp only [law24_RaceTotal_r9, Dt.eval, dec_lt hlt, cond_true]
        simp only [law24_RaceTotal_r11, law24_RaceTotal_K, Dt.eval, inB_of hlt, cond_true, elt_some hp, et]
        simp only [law24_RaceTotal_r12, Dt.eval]
        simp only [law24_RaceTotal_r13, Dt.eval]
        refine e2.trans (ih (c + 1) (by omega) (by omega) (by rw [etk, hcc]))
      · have hno : ∀ w ∈ L, w.2.2.2.2.1 ≠ p.1 := fun w hw e => by
          obtain ⟨k, hk⟩ := List.mem_iff_getElem?.1 hw
          exact hit ⟨k, w, hk, e⟩
        have eB := timeB d hlen hno d 0 (by omega)
        have et := eh.trans eB
        have hmem : ¬ (decide (p.1 ∈ L.map fun w => w.2.2.2.2.1) = true) := by
          rw [decide_eq_true_eq]
          intro h
          obtain ⟨w, hw, e⟩ := List.mem_map.1 h
          exact hno w hw e
        rw [if_neg hmem] at etk
        have e2 := tot_rest d hl64 hlen self (c := c) hp (g := 0) (x1 := 0) (x2 := 1) (n := n) (dd := dd) (n1 := n1) (d1 := d1) (b := false) (.inr ⟨rfl, rfl, rfl⟩) d 0 (by omega) (fun j w _ hw => hno w (List.mem_of_getElem? hw))
        simp only [law24_RaceTotal_r9, Dt.eval, dec_lt hlt, cond_true]
        simp only [law24_RaceTotal_r11, law24_RaceTotal_K, Dt.eval, inB_of hlt, cond_true, elt_some hp, et]
        simp only [law24_RaceTotal_r12, Dt.eval]
        simp only [law24_RaceTotal_r13, Dt.eval]
        refine e2.trans (ih c (by omega) (by omega) (by rw [etk, hcc]; exact (Nat.add_zero _).symm))
    · have hil : i = l.length := by omega
      have hcL : c = L.length := by rw [hcc, hil, List.take_length, hcnt]
      have e4 := tot_ends d hlen hpos hlk hw0 hv0 hwl hvl d 1 (by omega) (by omega)
      simp only [law24_RaceTotal_r9, Dt.eval, dec_nlt hlt, cond_false]
      simp only [law24_RaceTotal_r24, Dt.eval, hcL, bne_self_eq_false, cond_false]
      simp only [law24_RaceTotal_r26, Dt.eval]
      exact e4
theorem alive24b : F_law24_alive 5000000 () = some true := by kernel_rfl
set_option maxHeartbeats 4000000 in
theorem rtotal_plain (d : Nat) (hf : 4194400 ≤ d) (ea : F_law24_alive d () = some true) (l : List T3) (n dd n1 d1 : Int) (hn : i64B n = true) (hd : i64B dd = true) (hn1 : i64B n1 = true) (hd1 : i64B d1 = true) : F_law24_RaceTotal d ((l, ()), (n, dd, ()), (n1, d1, ()), ()) = some true := by
  have f1 := fine_eq d l hn hd hn1 hd1
  obtain ⟨v1, a1, a2⟩ := asked01 d hn hd
  obtain ⟨v2, a3, a4⟩ := asked01 d hn1 hd1
  have b0 : ((0 : Int) != 0) = false := rfl
  simp only [F_law24_RaceTotal, law24_RaceTotal_r0, law24_RaceTotal_r1, law24_RaceTotal_K, Dt.eval, ea]
  simp only [law24_RaceTotal_r2, law24_RaceTotal_K, Dt.eval, f1]
  cases hf1 : fineC l n dd n1 d1 with
  | false => simp only [Bool.not_false, cond_true, law24_RaceTotal_r3, Dt.eval]
  | true =>
    simp only [Bool.not_true, cond_false, a1]
    by_cases c1 : v1 = 0
    · subst c1
      simp only [b0, cond_false, a3, Dt.eval]
      by_cases c2 : v2 = 0
      · subst c2
        simp only [b0, cond_false, Dt.eval]
        obtain ⟨k0, s1, s2⟩ := a2 rfl
        obtain ⟨k1, s3, s4⟩ := a4 rfl
        obtain ⟨hl, hc⟩ := fineC_iff hf1
        obtain ⟨hok, _, _, k01⟩ := chk2_zero hc
        have h0 := chk2_fld hc
        have hl64 := hok.len
        have g0 : chk1 l n dd = 0 := by unfold chk1; rw [if_neg (by simpa using h0)]; exact k0
        have hL := ldT_lead hl n dd
        obtain ⟨a, ha, e1⟩ := of_eq d (by omega) hl hn hd g0
        have ba := crest_bd hok ha hn hd hL.1
        have sa := crest_sm hok ha s1 (by omega) hL.1
        have ca := crest_chk hok ha k0 hL
        have la := crest_le hok ha k0 hL
        obtain ⟨ra, hra⟩ := ha.head
        have e3 := reigns_eq d (by omega) hl hn hd hn1 hd1 hc e1 ba ca hra
        obtain ⟨ps, p1, p2, p3, p4, p5⟩ := crest_pts hok ha k0 hL
        have hrc : chkR none ((n, dd, (ldT l n dd).1, ()) :: ra) = true := by rw [← hra]; exact (chkL_zero ca).2.2
        have hlenR := reiL_len n1 d1 (n, dd, (ldT l n dd).1, ()) ra
        have hal : a.length = ra.length + 1 := by rw [hra]; rfl
        have hLlen : (reiL n1 d1 (n, dd, (ldT l n dd).1, ()) ra).length ≤ 1000 := by omega
        -- where the parts of a reign come from
        have hstr : ∀ (i : Nat) (w : T5), (reiL n1 d1 (n, dd, (ldT l n dd).1, ()) ra)[i]? = some w → ∃ (y q : T3), a[i]? = some y ∧ ps[i]? = some q ∧ w.2.2.2.2.1 = q.1 ∧ q ∈ l := fun i w hw => by
          obtain ⟨y, z1, _, _, z4, _⟩ := reiL_str _ _ i w hw
          rw [← hra] at z1
          have hil := (List.getElem?_eq_some_iff.1 z1).1
          obtain ⟨q, hq⟩ : ∃ q, ps[i]? = some q := ⟨_, List.getElem?_eq_getElem (by rw [p1]; exact hil)⟩
          obtain ⟨g1, _, _, g4⟩ := p3 i y q z1 hq
          exact ⟨y, q, z1, hq, by rw [z4, g1], g4.1⟩
        have hdis : ∀ (j k : Nat) (v w : T5), j ≠ k → (reiL n1 d1 (n, dd, (ldT l n dd).1, ()) ra)[j]? = some v → (reiL n1 d1 (n, dd, (ldT l n dd).1, ()) ra)[k]? = some w → v.2.2.2.2.1 ≠ w.2.2.2.2.1 := fun j k v w hjk hv hw e => by
          obtain ⟨_, q, _, hq, hi, hm⟩ := hstr j v hv
          obtain ⟨_, q', _, hq', hi', hm'⟩ := hstr k w hw
          have hqq : q = q' := ids_eq hok hm hm' (by rw [← hi, ← hi', e])
          subst hqq
          rcases Nat.lt_or_ge j k with h | h
          · have := speeds_lt p4 (k - j - 1) j q q hq (by rw [show j + (k - j - 1) + 1 = k by omega]; exact hq')
            exact absurd this (Int.lt_irrefl _)
          · have := speeds_lt p4 (j - k - 1) k q q hq' (by rw [show k + (j - k - 1) + 1 = j by omega]; exact hq)
            exact absurd this (Int.lt_irrefl _)
        have hsub : ∀ w ∈ reiL n1 d1 (n, dd, (ldT l n dd).1, ()) ra, ∃ v, F_ratio_Sub d ((w.2.2.1, w.2.2.2.1, ()), (w.1, w.2.1, ()), ()) = some v := fun w hw => by
          obtain ⟨i, hi⟩ := List.mem_iff_getElem?.1 hw
          obtain ⟨y, z1, z2, z3, _, z5⟩ := reiL_str _ _ i w hi
          rw [← hra] at z1
          have m1 := List.mem_of_getElem? z1
          have r1 := (okL_iff.1 ((chkR_pw (chkL_zero ca).2.2).1 y m1)).1
          rw [z2, z3]
          rcases z5 with ⟨_, q1, q2, _⟩ | ⟨_, y', hy', q1, q2, _⟩
          · rw [q1, q2]
            exact sub_some d hf k1 r1 s3 (sa y m1).1 (Int.le_trans s4 (by decide)) (sa y m1).2
          · rw [← hra] at hy'
            have m2 := List.mem_of_getElem? hy'
            have r2 := (okL_iff.1 ((chkR_pw (chkL_zero ca).2.2).1 y' m2)).1
            rw [q1, q2]
            exact sub_some d hf r2 r1 (sa y' m2).1 (sa y m1).1 (sa y' m2).2 (sa y m1).2
        have hlk : ∀ (j : Nat) (v w : T5), (reiL n1 d1 (n, dd, (ldT l n dd).1, ()) ra)[j]? = some v → (reiL n1 d1 (n, dd, (ldT l n dd).1, ()) ra)[j + 1]? = some w → v.2.2.1 = w.1 ∧ v.2.2.2.1 = w.2.1 := fun j v w hv hw => by
          obtain ⟨_, _, _, _, _, z5⟩ := reiL_str _ _ j v hv
          obtain ⟨y, y1, y2, y3, _, _⟩ := reiL_str _ _ (j + 1) w hw
          have hjl := (List.getElem?_eq_some_iff.1 hw).1
          rcases z5 with ⟨q0, _⟩ | ⟨_, y', hy', q1, q2, _⟩
          · rw [← q0] at hjl; exact absurd hjl (Nat.lt_irrefl _)
          · rw [y1] at hy'
            injection hy' with hy'
            rw [q1, q2, y2, y3, ← hy']
            exact ⟨rfl, rfl⟩
        obtain ⟨k, z, w, w1, w2, w3, _, _, _⟩ := reiL_last (t := n1) (u := d1) (n, dd, (ldT l n dd).1, ()) ra
        obtain ⟨_, _, _, _, _, s5⟩ := reiL_str _ _ k w w3
        have hto : w.2.2.1 = n1 ∧ w.2.2.2.1 = d1 := by
          rcases s5 with ⟨_, q1, q2, _⟩ | ⟨q1, _⟩
          · exact ⟨q1, q2⟩
          · rw [w2] at q1; exact absurd q1 (Nat.lt_irrefl _)
        have hpos : 0 < (reiL n1 d1 (n, dd, (ldT l n dd).1, ()) ra).length := by rw [w2]; exact Nat.succ_pos k
        obtain ⟨w0, hw0⟩ : ∃ w0, (reiL n1 d1 (n, dd, (ldT l n dd).1, ()) ra)[0]? = some w0 := ⟨_, List.getElem?_eq_getElem hpos⟩
        obtain ⟨y0, t1, t2, t3, _, _⟩ := reiL_str _ _ 0 w0 hw0
        simp only [List.getElem?_cons_zero, Option.some.injEq] at t1
        subst t1
        have hnod : ((reiL n1 d1 (n, dd, (ldT l n dd).1, ()) ra).map fun w => w.2.2.2.2.1).Nodup := by
          unfold List.Nodup
          rw [List.pairwise_map, List.pairwise_iff_getElem]
          intro i j hi hj hij
          exact hdis i j _ _ (Nat.ne_of_lt hij) (List.getElem?_eq_getElem hi) (List.getElem?_eq_getElem hj)
        have hcnt := count_ids hok.inc hnod (fun b hb => by
          obtain ⟨v, hv, rfl⟩ := List.mem_map.1 hb
          obtain ⟨i, hi⟩ := List.mem_iff_getElem?.1 hv
          obtain ⟨_, q, _, _, hid, hm⟩ := hstr i v hi
          exact ⟨q, hm, hid.symm⟩)
        rw [List.length_map] at hcnt
        have hloop := tot_outer d hf hok h0 hn hd hn1 hd1 hc e3 hLlen hpos hlk hw0 ⟨t2, t3⟩ (wl := w) (by rw [w2]; exact w3) hto hdis hsub hcnt d 0 0 (by omega) (by omega) (by simp)
        try simp only [Bool.not_true, cond_false]
        simp only [law24_RaceTotal_r4, law24_RaceTotal_K, Dt.eval, e3]
        simp only [law24_RaceTotal_r5, Dt.eval, b0, cond_false]
        simp only [law24_RaceTotal_r7, Dt.eval]
        simp only [law24_RaceTotal_r8, Dt.eval]
        exact hloop
      · have c2' : (v2 != 0) = true := by simpa using c2
        simp only [c2', cond_true, law24_RaceTotal_r3, Dt.eval]
    · have c1' : (v1 != 0) = true := by simpa using c1
      simp only [c1', cond_true, law24_RaceTotal_r3, Dt.eval]
end Go.Proofs.Ytdpnndpbbdhnmaa
