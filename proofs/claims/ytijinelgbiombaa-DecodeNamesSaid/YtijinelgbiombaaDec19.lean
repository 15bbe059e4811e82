/- Lists of asks are compared (the reference's SameAsks). -/
import Derived.Test.YtijinelgbiombaaDec6
import Derived.Test.YtijinelgbiombaaSpec36b
set_option linter.unusedSimpArgs false
set_option linter.unusedVariables false
namespace Go.Proofs.Ytijinelgbiombaa
open Go.RowKit Go.Pel
/-- two asks are the same -/
def eqA (k i a b j n d k' i' a' b' j' n' d' : Int) : Bool := decide (k = k' ∧ i = i' ∧ a = a' ∧ b = b' ∧ j = j' ∧ n = n' ∧ d = d')
theorem eqA_yes (x : Pel.Ask) : eqA x.k x.i x.a x.b x.j x.n x.d x.k x.i x.a x.b x.j x.n x.d = true := by simp [eqA]
theorem eqA_no {x y : Pel.Ask} (h : ¬ x = y) : eqA x.k x.i x.a x.b x.j x.n x.d y.k y.i y.a y.b y.j y.n y.d = false := by
  unfold eqA; rw [decide_eq_false_iff_not]; rintro ⟨h1, h2, h3, h4, h5, h6, h7⟩; exact h (by cases x; cases y; simp at *; exact ⟨h1, h2, h3, h4, h5, h6, h7⟩)
theorem equal_ask0 (k i a b j n d k' i' a' b' j' n' d' : Int) (w : World) : (Op.equalIn 10000 27 (.agg #[.int .u8 k, .int .i64 i, .int .i64 a, .int .i64 b, .int .i64 j, .int .i64 n, .int .i64 d]) (.agg #[.int .u8 k', .int .i64 i', .int .i64 a', .int .i64 b', .int .i64 j', .int .i64 n', .int .i64 d'])).run Try.prog w = .ok (eqA k i a b j n d k' i' a' b' j' n' d') w := by
  simp [go_sem]
  unfold eqA
  by_cases h1 : k = k' <;> by_cases h2 : i = i' <;> by_cases h3 : a = a' <;> by_cases h4 : b = b' <;> by_cases h5 : j = j' <;> by_cases h6 : n = n' <;> by_cases h7 : d = d' <;> simp [h1, h2, h3, h4, h5, h6, h7]
attribute [local go_sem ↓] equal_ask0
set_option maxRecDepth 10000 in
set_option maxHeartbeats 2000000 in
theorem same_any (A A2 : Option Addr) (c c2 : Nat) (l m : List Pel.Ask) (w : World) (hs : Sl w 7 A l.length c (va l)) (ht : Sl w 7 A2 m.length c2 (va m)) (hl : l.length ≤ 1000000) (hm : m.length ≤ 1000000) :
    Calls Try.prog 23 #[.slice A l.length c, .slice A2 m.length c2] w fun e w' => e = .returned (.bool (decide (l = m))) ∧ ∃ x, w' = ext w x := by
  by_cases hn : l.length = m.length
  · go_enter Try.func23, Try.ntmps23
    have z0 : ((l.length : Int) == (m.length : Int)) = true := by rw [beq_iff_eq]; omega
    go_wp2
    go_loopw [5] (fun i wr' => ∃ (k : Nat) (y : Beyond), k ≤ l.length ∧ i = .int .i64 k ∧ l.take k = m.take k ∧ wr' = ext w y) (fun i _ => l.length - (intOf i).toNat)
    case atStart => obtain ⟨y, hy⟩ := ext_of (Bel.refl w); exact ⟨0, y, Nat.zero_le _, rfl, rfl, hy⟩
    case round =>
      obtain ⟨k, y, hk, rfl, hgo, rfl⟩ := hrel
      have HG := Lib.hid hgo; clear hgo
      by_cases hlt : k < l.length
      · obtain ⟨x, hx⟩ : ∃ x, l[k]? = some x := ⟨_, List.getElem?_eq_getElem hlt⟩
        obtain ⟨x', hx'⟩ : ∃ x, m[k]? = some x := ⟨_, List.getElem?_eq_getElem (by omega)⟩
        obtain ⟨b, o, rfl, hb⟩ := hs.at_ (by omega)
        obtain ⟨b2, o2, rfl, hb2⟩ := ht.at_ (by omega)
        obtain ⟨r0, r1, r2, r3, r4, r5, r6⟩ := ask_at hs hx
        obtain ⟨q0, q1, q2, q3, q4, q5, q6⟩ := ask_at ht hx'
        have HX := Lib.hid hx
        have HX' := Lib.hid hx'
        have hlt2 : k < m.length := by omega
        clear hx hx'
        have hE : l.take (k + 1) = l.take k ++ [x] := by rw [List.take_add_one, HX.out]; rfl
        have hE' : m.take (k + 1) = m.take k ++ [x'] := by rw [List.take_add_one, HX'.out]; rfl
        have HE := Lib.hid hE
        have HE' := Lib.hid hE'
        clear hE hE'
        by_cases hxy : x = x'
        · subst hxy
          have heq := eqA_yes x
          go_wp2
          ((first | refine RegC.wp_region_ext1 (by kernel_rfl) (by kernel_rfl) ?_ | refine RegC.wp_region_ext0 (by kernel_rfl) (by kernel_rfl) ?_); (repeat (any_goals (first | go_big_quiet_step (fail) | (refine RegC.wpQuiet_split rfl rfl (fun hb => ?_) (fun hb => ?_) <;> simp only [hb])))); all_goals (refine wpQuiet_nil ?_; rintro _ ⟨nq, rfl⟩))
          go_wp2
          go_roundw
          case rel =>
            refine ⟨k + 1, _, by omega, by go_num, ?_, rfl⟩
            rw [HE.out, HE'.out, HG.out]
          case measure => (first | (simp [intOf]; done) | (simp [intOf]; omega))
        · have heq := eqA_no hxy
          have z1 : decide (l = m) = false := by rw [decide_eq_false_iff_not]; intro h; apply hxy; have h1 := HX.out; rw [h, HX'.out] at h1; exact (Option.some.inj h1).symm
          have Z1 := Lib.hid z1
          clear z1 hxy
          go_wp2
          ((first | refine RegC.wp_region_ext1 (by kernel_rfl) (by kernel_rfl) ?_ | refine RegC.wp_region_ext0 (by kernel_rfl) (by kernel_rfl) ?_); (repeat (any_goals (first | go_big_quiet_step (fail) | (refine RegC.wpQuiet_split rfl rfl (fun hb => ?_) (fun hb => ?_) <;> simp only [hb])))); all_goals (refine wpQuiet_nil ?_; rintro _ ⟨nq, rfl⟩))
          go_wp2
          (go_ret; exact ⟨ret_bool (by exact Z1.out.symm), ext_of (by (try simp only [ext_ext]); repeat (first | exact Bel.refl _ | assumption | refine bel_and ?_ _ | refine bel_drews ?_ _ | refine Bel.ext ?_ _ | refine Bel.alloc ?_ _ | refine Bel.drewN ?_ _))⟩)
      · go_wp2
        have z1 : decide (l = m) = true := by
          rw [decide_eq_true_eq]
          have h := HG.out
          obtain rfl : k = l.length := by omega
          rw [List.take_length] at h
          rw [h, hn, List.take_length]
        have Z1 := Lib.hid z1
        clear z1
        (go_ret; exact ⟨ret_bool (by exact Z1.out.symm), ext_of (by (try simp only [ext_ext]); repeat (first | exact Bel.refl _ | assumption | refine bel_and ?_ _ | refine bel_drews ?_ _ | refine Bel.ext ?_ _ | refine Bel.alloc ?_ _ | refine Bel.drewN ?_ _))⟩)
  · go_enter Try.func23, Try.ntmps23
    have z0 : ((l.length : Int) == (m.length : Int)) = false := by rw [beq_eq_false_iff_ne]; omega
    have z1 : decide (l = m) = false := by rw [decide_eq_false_iff_not]; intro h; exact hn (by rw [h])
    have Z1 := Lib.hid z1
    clear z1
    go_wp2
    (go_ret; exact ⟨ret_bool (by exact Z1.out.symm), ext_of (by (try simp only [ext_ext]); repeat (first | exact Bel.refl _ | assumption | refine bel_and ?_ _ | refine bel_drews ?_ _ | refine Bel.ext ?_ _ | refine Bel.alloc ?_ _ | refine Bel.drewN ?_ _))⟩)
end Go.Proofs.Ytijinelgbiombaa
