/- field.Check and the reference's; the reference's At. -/
import Derived.Test.YtkcpnclgcmnlcaaNum2
import Derived.Test.YtkcpnclgcmnlcaaSpec3
set_option linter.unusedSimpArgs false
set_option linter.unusedVariables false
namespace Go.Proofs.Ytkcpnclgcmnlcaa
open Go.RowKit Go.Pel
theorem pchk_lit (p : Pt) (v : Int) (h : p.chk = v) (W : World) : Calls Try.prog 67 #[.agg #[.int .i64 p.id, .int .i64 p.a, .int .i64 p.b]] W fun e w' => e = .returned (.int .i64 v) ∧ ∃ y, w' = ext W y := by
  subst h; exact courseCheck_any p.id p.a p.b W
theorem pchk2_lit (p : Pt) (v : Int) (h : p.chk = v) (W : World) : Calls Try.prog 61 #[.agg #[.int .i64 p.id, .int .i64 p.a, .int .i64 p.b]] W fun e w' => e = .returned (.int .i64 v) ∧ ∃ y, w' = ext W y := by
  subst h; exact ref02Check_any p.id p.a p.b W
set_option maxRecDepth 10000 in
set_option maxHeartbeats 2000000 in
theorem fieldCheck_any (A : Option Addr) (c : Nat) (l : List Pt) (w : World) (hs : Sl w 3 A l.length c (vp l)) :
    Calls Try.prog 25 #[.agg #[.slice A l.length c]] w fun e w' => e = .returned (.int .i64 (fieldChk l)) ∧ ∃ x, w' = ext w x := by
  by_cases hm : 64 < l.length
  · have E1 := Lib.hid (fieldChk_many hm)
    go_enter Try.func25, Try.ntmps25
    go_wp2
    (go_ret; exact ⟨ret_int (by exact E1.out.symm), ext_of (by (try simp only [ext_ext]); repeat (first | exact Bel.refl _ | assumption | refine bel_and ?_ _ | refine bel_drews ?_ _ | refine Bel.ext ?_ _ | refine Bel.alloc ?_ _ | refine Bel.drewN ?_ _))⟩)
  · have E1 := Lib.hid (fun p (hp : p ∈ l) hc => fieldChk_bad (l := l) (by omega) hp hc)
    have E2 := Lib.hid (fieldChk_order (l := l) (by omega))
    have E3 := Lib.hid (fieldChk_ok (l := l) (by omega))
    go_enter Try.func25, Try.ntmps25
    go_wp2
    go_loopw [15] (fun i wr => ∃ (k : Nat), k ≤ l.length ∧ i = .int .i64 k ∧ (∀ p ∈ l.take k, p.chk = 0) ∧ ∃ y, wr = ext (w.alloc (.cells #[.slice A l.length c] 24)) y) (fun i _ => l.length - (intOf i).toNat)
    case atStart => exact ⟨0, Nat.zero_le _, rfl, by simp, ext_of (Bel.refl _)⟩
    case round =>
      obtain ⟨k, hk, rfl, hall, y, rfl⟩ := hrel
      have HA := Lib.hid hall; clear hall
      by_cases hlt : k < l.length
      · obtain ⟨p, hp⟩ : ∃ p, l[k]? = some p := ⟨_, List.getElem?_eq_getElem hlt⟩
        obtain ⟨b, o, rfl, hb⟩ := hs.at_ (by omega)
        obtain ⟨r0, r1, r2⟩ := pt_at hs hp
        have HP := Lib.hid hp; clear hp
        rcases pt_cases p with h | h
        · have e1 := Lib.hid (pchk_lit p 0 h)
          have HC := Lib.hid h; clear h
          go_wp2_with ((go_at_call 67; refine (e1.out _).mono ?_; rintro e _ ⟨rfl, nx, rfl⟩))
          go_roundw
          case rel =>
            refine ⟨k + 1, by omega, by go_num, ?_, ext_of (by (try simp only [ext_ext]); repeat (first | exact Bel.refl _ | assumption | refine bel_and ?_ _ | refine bel_drews ?_ _ | refine Bel.ext ?_ _ | refine Bel.alloc ?_ _ | refine Bel.drewN ?_ _))⟩
            intro q hq
            rw [List.take_add_one, HP.out] at hq
            rcases List.mem_append.1 hq with hq | hq
            · exact HA.out q hq
            · simp at hq; subst hq; exact HC.out
          case measure => (first | (simp [intOf]; done) | (simp [intOf]; omega))
        · have e1 := Lib.hid (pchk_lit p 8 h)
          have HC := Lib.hid (E1.out p (List.mem_of_getElem? HP.out) (by rw [h]; decide)); clear h
          go_wp2_with ((go_at_call 67; refine (e1.out _).mono ?_; rintro e _ ⟨rfl, nx, rfl⟩))
          (go_ret; exact ⟨ret_int (by exact HC.out.symm), ext_of (by (try simp only [ext_ext]); repeat (first | exact Bel.refl _ | assumption | refine bel_and ?_ _ | refine bel_drews ?_ _ | refine Bel.ext ?_ _ | refine Bel.alloc ?_ _ | refine Bel.drewN ?_ _))⟩)
      · obtain rfl : k = l.length := by omega
        have hc0 := HA.out
        rw [List.take_length] at hc0
        have HC := Lib.hid hc0; clear hc0
        go_wp2
        go_loopw [28] (fun i wr => ∃ (k : Nat), k ≤ l.length ∧ i = .int .i64 k ∧ (∀ (i : Nat) (p q : Pt), i + 1 < k → l[i]? = some p → l[i + 1]? = some q → p.id < q.id) ∧ ∃ y, wr = ext (w.alloc (.cells #[.slice A l.length c] 24)) y) (fun i _ => l.length - (intOf i).toNat)
        case atStart => exact ⟨0, Nat.zero_le _, rfl, (by intro i p q h; omega), y, rfl⟩
        case round =>
          clear hk hlt HA
          obtain ⟨k, hk, rfl, hall, y2, rfl⟩ := hrel
          have HA := Lib.hid hall; clear hall
          by_cases hlt : k < l.length
          · obtain ⟨p, hp⟩ : ∃ p, l[k]? = some p := ⟨_, List.getElem?_eq_getElem hlt⟩
            obtain ⟨b, o, rfl, hb⟩ := hs.at_ (by omega)
            obtain ⟨r0, r1, r2⟩ := pt_at hs hp
            have HP := Lib.hid hp; clear hp
            by_cases hk0 : 0 < k
            · obtain ⟨m, rfl⟩ : ∃ m, k = m + 1 := ⟨k - 1, by omega⟩
              have hmlt : m < l.length := by omega
              obtain ⟨q, hq⟩ : ∃ q, l[m]? = some q := ⟨_, List.getElem?_eq_getElem (by omega)⟩
              obtain ⟨q0, q1, q2⟩ := pt_at hs hq
              have HQ := Lib.hid hq; clear hq
              have hi0 : (0 : Int) ≤ (m : Int) := by omega
              have hi1 : (m : Int) < (l.length : Int) := by omega
              by_cases hid : q.id < p.id
              · have hd : ¬ p.id ≤ q.id := by omega
                go_wp2
                ((first | refine RegC.wp_region_ext1 (by kernel_rfl) (by kernel_rfl) ?_ | refine RegC.wp_region_ext0 (by kernel_rfl) (by kernel_rfl) ?_); (repeat (any_goals (first | go_big_quiet_step (fail) | (refine RegC.wpQuiet_split rfl rfl (fun hb => ?_) (fun hb => ?_) <;> simp only [hb])))); all_goals (refine wpQuiet_nil ?_; rintro _ ⟨nq, rfl⟩))
                go_wp2
                go_roundw
                case rel =>
                  refine ⟨m + 2, by omega, by go_num, ?_, ext_of (by (try simp only [ext_ext]); repeat (first | exact Bel.refl _ | assumption | refine bel_and ?_ _ | refine bel_drews ?_ _ | refine Bel.ext ?_ _ | refine Bel.alloc ?_ _ | refine Bel.drewN ?_ _))⟩
                  intro i p' q' hi hp' hq'
                  rcases Nat.lt_or_ge (i + 1) (m + 1) with h | h
                  · exact HA.out i p' q' h hp' hq'
                  · obtain rfl : i = m := by omega
                    rw [HQ.out] at hp'
                    rw [HP.out] at hq'
                    obtain rfl := Option.some.inj hp'
                    obtain rfl := Option.some.inj hq'
                    exact hid
                case measure => (first | (simp [intOf]; done) | (simp [intOf]; omega))
              · have hd : p.id ≤ q.id := by omega
                have hbad : incB l = false := by
                  rw [← Bool.not_eq_true, incB_iff]; intro h; exact hid (h m q p HQ.out HP.out)
                have HB := Lib.hid (E2.out HC.out hbad); clear hbad
                go_wp2
                ((first | refine RegC.wp_region_ext1 (by kernel_rfl) (by kernel_rfl) ?_ | refine RegC.wp_region_ext0 (by kernel_rfl) (by kernel_rfl) ?_); (repeat (any_goals (first | go_big_quiet_step (fail) | (refine RegC.wpQuiet_split rfl rfl (fun hb => ?_) (fun hb => ?_) <;> simp only [hb])))); all_goals (refine wpQuiet_nil ?_; rintro _ ⟨nq, rfl⟩))
                go_wp2
                (go_ret; exact ⟨ret_int (by exact HB.out.symm), ext_of (by (try simp only [ext_ext]); repeat (first | exact Bel.refl _ | assumption | refine bel_and ?_ _ | refine bel_drews ?_ _ | refine Bel.ext ?_ _ | refine Bel.alloc ?_ _ | refine Bel.drewN ?_ _))⟩)
            · obtain rfl : k = 0 := by omega
              simp only [Nat.zero_mul, Nat.add_zero] at r0 r1 r2
              go_wp2
              ((first | refine RegC.wp_region_ext1 (by kernel_rfl) (by kernel_rfl) ?_ | refine RegC.wp_region_ext0 (by kernel_rfl) (by kernel_rfl) ?_); (repeat (any_goals (first | go_big_quiet_step (fail) | (refine RegC.wpQuiet_split rfl rfl (fun hb => ?_) (fun hb => ?_) <;> simp only [hb])))); all_goals (refine wpQuiet_nil ?_; rintro _ ⟨nq, rfl⟩))
              go_wp2
              go_roundw
              case rel => exact ⟨1, by omega, by go_num, (by intro i p q h; omega), ext_of (by (try simp only [ext_ext]); repeat (first | exact Bel.refl _ | assumption | refine bel_and ?_ _ | refine bel_drews ?_ _ | refine Bel.ext ?_ _ | refine Bel.alloc ?_ _ | refine Bel.drewN ?_ _))⟩
              case measure => (first | (simp [intOf]; done) | (simp [intOf]; omega))
          · obtain rfl : k = l.length := by omega
            have hinc : incB l = true := (incB_iff l).2 fun i p q hp hq => HA.out i p q (by have := (List.getElem?_eq_some_iff.1 hq).1; omega) hp hq
            have HB := Lib.hid (E3.out HC.out hinc); clear hinc
            go_wp2
            (go_ret; exact ⟨ret_int (by exact HB.out.symm), ext_of (by (try simp only [ext_ext]); repeat (first | exact Bel.refl _ | assumption | refine bel_and ?_ _ | refine bel_drews ?_ _ | refine Bel.ext ?_ _ | refine Bel.alloc ?_ _ | refine Bel.drewN ?_ _))⟩)
end Go.Proofs.Ytkcpnclgcmnlcaa
