/- the reference of decode.Check says the same. -/
import Derived.Test.YtijinelgbiombaaNum4
import Derived.Test.YtijinelgbiombaaSpec36
set_option linter.unusedSimpArgs false
set_option linter.unusedVariables false
namespace Go.Proofs.Ytijinelgbiombaa
open Go.RowKit Go.Pel
set_option maxHeartbeats 1000000 in
theorem ref36Check_put (k : Int) (i a b j n d : Int) (w : World) (hk : k = 1 ∨ k = 3) :
    Calls Try.prog 15 #[.agg #[.int .u8 k, .int .i64 i, .int .i64 a, .int .i64 b, .int .i64 j, .int .i64 n, .int .i64 d]] w fun e w' => e = .returned (.int .i64 (askChk k i a b j n d)) ∧ ∃ x, w' = ext w x := by
  have E1 := Lib.hid (@askChk_put k i a b j n d hk)
  have E2 := Lib.hid (@askChk_put_no k i a b j n d hk)
  rcases hk with rfl | rfl <;> rcases pointChk_cases i a b with e0 | e0
  all_goals (
    have E0 := Lib.hid e0
    go_enter Try.func15, Try.ntmps15
    go_wp2_with (first | (go_at_call 35; refine (e0 ▸ ref02Check_any i a b _).mono ?_; rintro e _ ⟨rfl, nx, rfl⟩))
    all_goals (go_ret; exact ⟨ret_int (by first | exact (E1.out E0.out (by omega)).symm | exact (E2.out (by have := E0.out; omega)).symm), ext_of (by (try simp only [ext_ext]); repeat (first | exact Bel.refl _ | assumption | refine bel_and ?_ _ | refine bel_drews ?_ _ | refine Bel.ext ?_ _ | refine Bel.alloc ?_ _ | refine Bel.drewN ?_ _))⟩))

set_option maxHeartbeats 1000000 in
theorem ref36Check_take (i a b j n d : Int) (w : World) :
    Calls Try.prog 15 #[.agg #[.int .u8 2, .int .i64 i, .int .i64 a, .int .i64 b, .int .i64 j, .int .i64 n, .int .i64 d]] w fun e w' => e = .returned (.int .i64 (askChk 2 i a b j n d)) ∧ ∃ x, w' = ext w x := by
  have E1 := Lib.hid (@askChk_take i a b j n d)
  have E2 := Lib.hid (@askChk_take_no i a b j n d)
  go_enter Try.func15, Try.ntmps15
  go_wp2
  all_goals (go_ret; exact ⟨ret_int (by first | exact (E1.out (by omega) (by omega)).symm | exact (E2.out (by omega)).symm), ext_of (by (try simp only [ext_ext]); repeat (first | exact Bel.refl _ | assumption | refine bel_and ?_ _ | refine bel_drews ?_ _ | refine Bel.ext ?_ _ | refine Bel.alloc ?_ _ | refine Bel.drewN ?_ _))⟩)

set_option maxHeartbeats 1000000 in
theorem ref36Check_move (i a b j n d : Int) (w : World) (hn : -9223372036854775808 ≤ n ∧ n ≤ 9223372036854775807) (hd : -9223372036854775808 ≤ d ∧ d ≤ 9223372036854775807) :
    Calls Try.prog 15 #[.agg #[.int .u8 4, .int .i64 i, .int .i64 a, .int .i64 b, .int .i64 j, .int .i64 n, .int .i64 d]] w fun e w' => e = .returned (.int .i64 (askChk 4 i a b j n d)) ∧ ∃ x, w' = ext w x := by
  obtain ⟨hn1, hn2⟩ := hn; obtain ⟨hd1, hd2⟩ := hd
  rcases asked_cases n d with e0 | e0 | e0
  all_goals (
    have E1 := Lib.hid (@askChk_move i a b j n d)
    have E2 := Lib.hid (@askChk_move_no i a b j n d)
    have E0 := Lib.hid e0
    rcases ratioChk_cases n d with e1 | e1
    all_goals (
      go_enter Try.func15, Try.ntmps15
      go_wp2_with (first | (go_at_call 36; refine (e1 ▸ ref01Check_any n d _ (by omega) (by omega)).mono ?_; rintro e _ ⟨rfl, nx, rfl⟩) | (go_at_call 37; refine (e0 ▸ ref01Asked_any n d _ (by omega) (by omega)).mono ?_; rintro e _ ⟨rfl, nx, rfl⟩)))
    all_goals (go_ret; exact ⟨ret_int (by first | exact (E1.out E0.out (by omega)).symm | exact (E2.out (by have := E0.out; omega)).symm | (exfalso; have h1 := asked_bad e1; have h2 := E0.out; omega)), ext_of (by (try simp only [ext_ext]); repeat (first | exact Bel.refl _ | assumption | refine bel_and ?_ _ | refine bel_drews ?_ _ | refine Bel.ext ?_ _ | refine Bel.alloc ?_ _ | refine Bel.drewN ?_ _))⟩))

set_option maxHeartbeats 1000000 in
theorem ref36Check_bare (k : Int) (i a b j n d : Int) (w : World) (hk : k = 5 ∨ k = 6) :
    Calls Try.prog 15 #[.agg #[.int .u8 k, .int .i64 i, .int .i64 a, .int .i64 b, .int .i64 j, .int .i64 n, .int .i64 d]] w fun e w' => e = .returned (.int .i64 (askChk k i a b j n d)) ∧ ∃ x, w' = ext w x := by
  have E1 := Lib.hid (@askChk_bare k i a b j n d hk)
  have E2 := Lib.hid (@askChk_bare_no k i a b j n d hk)
  rcases hk with rfl | rfl
  all_goals (
    go_enter Try.func15, Try.ntmps15
    go_wp2
    all_goals (go_ret; exact ⟨ret_int (by first | exact (E1.out (by omega)).symm | exact (E2.out (by omega)).symm), ext_of (by (try simp only [ext_ext]); repeat (first | exact Bel.refl _ | assumption | refine bel_and ?_ _ | refine bel_drews ?_ _ | refine Bel.ext ?_ _ | refine Bel.alloc ?_ _ | refine Bel.drewN ?_ _))⟩))

set_option maxHeartbeats 1000000 in
theorem ref36Check_none (k : Int) (i a b j n d : Int) (w : World) (hk : k < 1 ∨ 6 < k) :
    Calls Try.prog 15 #[.agg #[.int .u8 k, .int .i64 i, .int .i64 a, .int .i64 b, .int .i64 j, .int .i64 n, .int .i64 d]] w fun e w' => e = .returned (.int .i64 (askChk k i a b j n d)) ∧ ∃ x, w' = ext w x := by
  have E1 := Lib.hid (@askChk_none k i a b j n d hk)
  have k1 : (k == 1) = false := by rw [beq_eq_false_iff_ne]; omega
  have k2 : (k == 2) = false := by rw [beq_eq_false_iff_ne]; omega
  have k3 : (k == 3) = false := by rw [beq_eq_false_iff_ne]; omega
  have k4 : (k == 4) = false := by rw [beq_eq_false_iff_ne]; omega
  have k5 : (k == 5) = false := by rw [beq_eq_false_iff_ne]; omega
  have k6 : (k == 6) = false := by rw [beq_eq_false_iff_ne]; omega
  clear hk
  go_enter Try.func15, Try.ntmps15
  go_wp2
  all_goals (go_ret; exact ⟨ret_int (by exact E1.out.symm), ext_of (by (try simp only [ext_ext]); repeat (first | exact Bel.refl _ | assumption | refine bel_and ?_ _ | refine bel_drews ?_ _ | refine Bel.ext ?_ _ | refine Bel.alloc ?_ _ | refine Bel.drewN ?_ _))⟩)

theorem ref36Check_any (k i a b j n d : Int) (w : World) (hn : -9223372036854775808 ≤ n ∧ n ≤ 9223372036854775807) (hd : -9223372036854775808 ≤ d ∧ d ≤ 9223372036854775807) :
    Calls Try.prog 15 #[.agg #[.int .u8 k, .int .i64 i, .int .i64 a, .int .i64 b, .int .i64 j, .int .i64 n, .int .i64 d]] w fun e w' => e = .returned (.int .i64 (askChk k i a b j n d)) ∧ ∃ x, w' = ext w x := by
  rcases (by omega : (k = 1 ∨ k = 3) ∨ k = 2 ∨ k = 4 ∨ (k = 5 ∨ k = 6) ∨ (k < 1 ∨ 6 < k)) with h | rfl | rfl | h | h
  · exact ref36Check_put k i a b j n d w h
  · exact ref36Check_take i a b j n d w
  · exact ref36Check_move i a b j n d w hn hd
  · exact ref36Check_bare k i a b j n d w h
  · exact ref36Check_none k i a b j n d w h

end Go.Proofs.Ytijinelgbiombaa
