/- ref03.Ranked. -/
import Derived.Test.YtkcpnclgcmnlcaaRef4
set_option linter.unusedSimpArgs false
set_option linter.unusedVariables false
namespace Go.Proofs.Ytkcpnclgcmnlcaa
open Go.RowKit Go.Pel
theorem refLeads_lit (p q : Pt) (n d : Int) (v : Bool) (h : CmpIn p q n d) (hv : leads p q n d = v) (w : World) :
    Calls Try.prog 115 #[.agg #[.int .i64 p.id, .int .i64 p.a, .int .i64 p.b], .agg #[.int .i64 q.id, .int .i64 q.a, .int .i64 q.b], .agg #[.int .i64 n, .int .i64 d]] w fun e w' => e = .returned (.bool v) ∧ ∃ x, w' = ext w x := hv ▸ refLeads_any p q n d w h
set_option maxRecDepth 10000 in
set_option maxHeartbeats 2000000 in
theorem ranked_any (A : Option Addr) (c : Nat) (l : List Pt) (p : Pt) (n d : Int) (w : World) (hs : Sl w 3 A l.length c (vp l)) (hl : l.length ≤ 1000000) (hin : ∀ q ∈ l, CmpIn q p n d) :
    Calls Try.prog 93 #[.agg #[.slice A l.length c], .agg #[.int .i64 p.id, .int .i64 p.a, .int .i64 p.b], .agg #[.int .i64 n, .int .i64 d]] w fun e w' => e = .returned (.int .i64 (rankR l p n d)) ∧ ∃ x, w' = ext w x := by
  have HIN := Lib.hid hin; clear hin
  go_enter Try.func93, Try.ntmps93
  go_wp2
  go_loopw [7, 8] (fun a i wr => ∃ (k : Nat), k ≤ l.length ∧ i = .int .i64 k ∧ a = .int .i64 (rankR (l.take k) p n d) ∧ ∃ y, wr = ext (((w.alloc (.cells #[.slice A l.length c] 24)).alloc (.cells #[.int .i64 p.id, .int .i64 p.a, .int .i64 p.b] 26)).alloc (.cells #[.int .i64 n, .int .i64 d] 49)) y) (fun _ i _ => l.length - (intOf i).toNat)
  case atStart => exact ⟨0, Nat.zero_le _, rfl, rfl, ext_of (Bel.refl _)⟩
  case round =>
    obtain ⟨k, hk, rfl, rfl, y, rfl⟩ := hrel
    have hrk := rankR_le (l.take k) p n d
    have hrk2 : (l.take k).length ≤ k := by rw [List.length_take]; omega
    by_cases hlt : k < l.length
    · obtain ⟨x, hx⟩ : ∃ x, l[k]? = some x := ⟨_, List.getElem?_eq_getElem hlt⟩
      obtain ⟨b, o, rfl, hb⟩ := hs.at_ (by omega)
      obtain ⟨r0, r1, r2⟩ := pt_at hs hx
      have hE : rankR (l.take (k + 1)) p n d = rankR (l.take k) p n d + (if ((x.id != p.id) && leads x p n d) = true then 1 else 0) := by
        rw [List.take_add_one, hx]; exact rankR_snoc _ _ _ _ _
      have hcin := HIN.out x (List.mem_of_getElem? hx)
      have hlt' : (k : Int) < (l.length : Int) := by omega
      obtain ⟨R, hR⟩ : ∃ R, rankR (l.take k) p n d = R := ⟨_, rfl⟩
      rw [hR] at hE hrk ⊢
      clear hR hx
      have hR' : (R : Int) ≤ 1000000 := by omega
      have hR0 : (0 : Int) ≤ R := by omega
      by_cases hid : x.id = p.id
      · have hd : (x.id != p.id) = false := by simpa using hid
        have HE := Lib.hid (show rankR (l.take (k + 1)) p n d = R by rw [hE, hd]; rfl)
        clear hE hcin hid
        go_wp2
        ((first | refine RegC.wp_region_ext1 (by kernel_rfl) (by kernel_rfl) ?_ | refine RegC.wp_region_ext0 (by kernel_rfl) (by kernel_rfl) ?_); (repeat (any_goals (first | go_big_quiet_step (fail) | (refine RegC.wpQuiet_split rfl rfl (fun hb => ?_) (fun hb => ?_) <;> simp only [hb])))); all_goals (refine wpQuiet_nil ?_; rintro _ ⟨nq, rfl⟩))
        go_wp2
        go_roundw
        case rel => exact ⟨k + 1, by omega, by go_num, by rw [HE.out], ext_of (by (try simp only [ext_ext]); repeat (first | exact Bel.refl _ | assumption | refine bel_and ?_ _ | refine bel_drews ?_ _ | refine Bel.ext ?_ _ | refine Bel.alloc ?_ _ | refine Bel.drewN ?_ _))⟩
        case measure => (first | (simp [intOf]; done) | (simp [intOf]; omega))
      · have hd : (x.id != p.id) = true := by simpa using hid
        cases hv : leads x p n d with
        | false =>
          have HE := Lib.hid (show rankR (l.take (k + 1)) p n d = R by rw [hE, hd, hv]; rfl)
          have q1 := Lib.hid (refLeads_lit x p n d false hcin hv)
          clear hE hcin hid hv
          go_wp2
          ((first | refine RegC.wp_region_ext1 (by kernel_rfl) (by kernel_rfl) ?_ | refine RegC.wp_region_ext0 (by kernel_rfl) (by kernel_rfl) ?_); (repeat (any_goals (first | go_big_quiet_step ((go_at_call 115; with_reducible first | exact Calls.ext_of1 (q1.out _) | exact Calls.ext_of (q1.out _))) | (refine RegC.wpQuiet_split rfl rfl (fun hb => ?_) (fun hb => ?_) <;> simp only [hb])))); all_goals (refine wpQuiet_nil ?_; rintro _ ⟨nq, rfl⟩))
          go_wp2
          go_roundw
          case rel => exact ⟨k + 1, by omega, by go_num, by rw [HE.out], ext_of (by (try simp only [ext_ext]); repeat (first | exact Bel.refl _ | assumption | refine bel_and ?_ _ | refine bel_drews ?_ _ | refine Bel.ext ?_ _ | refine Bel.alloc ?_ _ | refine Bel.drewN ?_ _))⟩
          case measure => (first | (simp [intOf]; done) | (simp [intOf]; omega))
        | true =>
          have HE := Lib.hid (show rankR (l.take (k + 1)) p n d = R + 1 by rw [hE, hd, hv]; rfl)
          have q1 := Lib.hid (refLeads_lit x p n d true hcin hv)
          clear hE hcin hid hv
          go_wp2
          ((first | refine RegC.wp_region_ext1 (by kernel_rfl) (by kernel_rfl) ?_ | refine RegC.wp_region_ext0 (by kernel_rfl) (by kernel_rfl) ?_); (repeat (any_goals (first | go_big_quiet_step ((go_at_call 115; with_reducible first | exact Calls.ext_of1 (q1.out _) | exact Calls.ext_of (q1.out _))) | (refine RegC.wpQuiet_split rfl rfl (fun hb => ?_) (fun hb => ?_) <;> simp only [hb])))); all_goals (refine wpQuiet_nil ?_; rintro _ ⟨nq, rfl⟩))
          go_wp2
          go_roundw
          case rel => exact ⟨k + 1, by omega, by go_num, by rw [HE.out]; go_num, ext_of (by (try simp only [ext_ext]); repeat (first | exact Bel.refl _ | assumption | refine bel_and ?_ _ | refine bel_drews ?_ _ | refine Bel.ext ?_ _ | refine Bel.alloc ?_ _ | refine Bel.drewN ?_ _))⟩
          case measure => (first | (simp [intOf]; done) | (simp [intOf]; omega))
    · obtain rfl : k = l.length := by omega
      rw [List.take_length]
      go_wp2
      (go_ret; exact ⟨ret_int (by rfl), ext_of (by (try simp only [ext_ext]); repeat (first | exact Bel.refl _ | assumption | refine bel_and ?_ _ | refine bel_drews ?_ _ | refine Bel.ext ?_ _ | refine Bel.alloc ?_ _ | refine Bel.drewN ?_ _))⟩)
end Go.Proofs.Ytkcpnclgcmnlcaa
