/- decode.tamed. -/
import Derived.Test.YtijinelgbiombaaDec22
import Derived.Test.YtijinelgbiombaaSpec36c
set_option linter.unusedSimpArgs false
set_option linter.unusedVariables false
namespace Go.Proofs.Ytijinelgbiombaa
open Go.RowKit Go.Pel
theorem tamed1_any (v : Nat) (n : Int) (hn : n = (v : Int) - 1048576) (w : World) (hv : v < 1073741824) :
    Calls Try.prog 50 #[.int .i64 n] w fun e w' => e = .returned (.int .i64 (wideV v)) ∧ ∃ x, w' = ext w x := by
  subst hn
  have e1 : (v : Int) - 1048576 + 1048576 = v := by omega
  have e2 : Int.tmod (v : Int) 2097153 = (v : Int) % 2097153 := Int.tmod_eq_emod_of_nonneg (by omega)
  have e3 : (v : Int) % 2097153 - 1048576 = wideV v := rfl
  have e4 := wideV_range v
  go_enter Try.func50, Try.ntmps50
  go_wp2
  (go_ret; exact ⟨ret_int (by rfl), ext_of (by (try simp only [ext_ext]); repeat (first | exact Bel.refl _ | assumption | refine bel_and ?_ _ | refine bel_drews ?_ _ | refine Bel.ext ?_ _ | refine Bel.alloc ?_ _ | refine Bel.drewN ?_ _))⟩)
set_option maxRecDepth 10000 in
set_option maxHeartbeats 4000000 in
theorem tamed_put (k i n d : Int) (u v : Nat) (a b : Int) (ha : a = (u : Int) - 1048576) (hb : b = (v : Int) - 1048576) (w : World) (hk : k = 1 ∨ k = 3) (hu : u < 1073741824) (hv : v < 1073741824) :
    Calls Try.prog 40 #[.agg #[.int .u8 k, .int .i64 i, .int .i64 a, .int .i64 b, .int .i64 0, .int .i64 0, .int .i64 0], .int .i64 n, .int .i64 d] w fun e w' => e = .returned (.agg #[.int .u8 k, .int .i64 i, .int .i64 (wideV u), .int .i64 (wideV v), .int .i64 0, .int .i64 0, .int .i64 0]) ∧ ∃ x, w' = ext w x := by
  have H1 := Lib.hid ha
  have H2 := Lib.hid hb
  clear ha hb
  rcases hk with rfl | rfl
  all_goals (
    go_enter Try.func40, Try.ntmps40
    go_wp2
    ((first | refine RegC.wp_region_tail1 12 (by kernel_rfl) (by kernel_rfl) ?_ | refine RegC.wp_region_tail0 12 (by kernel_rfl) (by kernel_rfl) ?_); simp only [List.take_succ_cons, List.take_zero, List.drop_succ_cons, List.drop_zero]; (repeat (any_goals (first | go_big_quiet_step (first | (go_at_call 50; first | exact Calls.ext_of1 (tamed1_any u _ H1.out _ hu) | exact Calls.ext_of (tamed1_any u _ H1.out _ hu)) | (go_at_call 50; first | exact Calls.ext_of1 (tamed1_any v _ H2.out _ hv) | exact Calls.ext_of (tamed1_any v _ H2.out _ hv))) | (refine RegC.wpQuiet_split rfl rfl (fun hb => ?_) (fun hb => ?_) <;> simp only [hb])))); all_goals (refine wpQuiet_nil ?_; rintro _ ⟨nq, rfl⟩))
    go_wp2
    first | exact bodyPost_ret (v := .agg #[.int .u8 1, .int .i64 i, .int .i64 (wideV u), .int .i64 (wideV v), .int .i64 0, .int .i64 0, .int .i64 0]) (by simp [results, Try.results40, go_sem, Ask.zero]) rfl ⟨rfl, ext_of (by (try simp only [ext_ext]); repeat (first | exact Bel.refl _ | assumption | refine bel_and ?_ _ | refine bel_drews ?_ _ | refine Bel.ext ?_ _ | refine Bel.alloc ?_ _ | refine Bel.drewN ?_ _))⟩ | exact bodyPost_ret (v := .agg #[.int .u8 3, .int .i64 i, .int .i64 (wideV u), .int .i64 (wideV v), .int .i64 0, .int .i64 0, .int .i64 0]) (by simp [results, Try.results40, go_sem, Ask.zero]) rfl ⟨rfl, ext_of (by (try simp only [ext_ext]); repeat (first | exact Bel.refl _ | assumption | refine bel_and ?_ _ | refine bel_drews ?_ _ | refine Bel.ext ?_ _ | refine Bel.alloc ?_ _ | refine Bel.drewN ?_ _))⟩)
theorem tamed_bare (k i a b j n d n' d' : Int) (w : World) (hk : k = 2 ∨ k = 5 ∨ k = 6) :
    Calls Try.prog 40 #[.agg #[.int .u8 k, .int .i64 i, .int .i64 a, .int .i64 b, .int .i64 j, .int .i64 n, .int .i64 d], .int .i64 n', .int .i64 d'] w fun e w' => e = .returned (.agg #[.int .u8 k, .int .i64 i, .int .i64 a, .int .i64 b, .int .i64 j, .int .i64 n, .int .i64 d]) ∧ ∃ x, w' = ext w x := by
  rcases hk with rfl | rfl | rfl
  · go_enter Try.func40, Try.ntmps40
    go_wp2
    exact bodyPost_ret (v := .agg #[.int .u8 2, .int .i64 i, .int .i64 a, .int .i64 b, .int .i64 j, .int .i64 n, .int .i64 d]) (by simp [results, Try.results40, go_sem, Ask.zero]) rfl ⟨rfl, ext_of (by (try simp only [ext_ext]); repeat (first | exact Bel.refl _ | assumption | refine bel_and ?_ _ | refine bel_drews ?_ _ | refine Bel.ext ?_ _ | refine Bel.alloc ?_ _ | refine Bel.drewN ?_ _))⟩
  · go_enter Try.func40, Try.ntmps40
    go_wp2
    exact bodyPost_ret (v := .agg #[.int .u8 5, .int .i64 i, .int .i64 a, .int .i64 b, .int .i64 j, .int .i64 n, .int .i64 d]) (by simp [results, Try.results40, go_sem, Ask.zero]) rfl ⟨rfl, ext_of (by (try simp only [ext_ext]); repeat (first | exact Bel.refl _ | assumption | refine bel_and ?_ _ | refine bel_drews ?_ _ | refine Bel.ext ?_ _ | refine Bel.alloc ?_ _ | refine Bel.drewN ?_ _))⟩
  · go_enter Try.func40, Try.ntmps40
    go_wp2
    exact bodyPost_ret (v := .agg #[.int .u8 6, .int .i64 i, .int .i64 a, .int .i64 b, .int .i64 j, .int .i64 n, .int .i64 d]) (by simp [results, Try.results40, go_sem, Ask.zero]) rfl ⟨rfl, ext_of (by (try simp only [ext_ext]); repeat (first | exact Bel.refl _ | assumption | refine bel_and ?_ _ | refine bel_drews ?_ _ | refine Bel.ext ?_ _ | refine Bel.alloc ?_ _ | refine Bel.drewN ?_ _))⟩
set_option maxRecDepth 10000 in
set_option maxHeartbeats 4000000 in
theorem tamed_move (n d : Int) (u v : Nat) (hn : n = (u : Int) - 1073741824) (hd : d = v) (w : World) (hu : u < 72057594037927936) (hv : v < 72057594037927936) :
    Calls Try.prog 40 #[.agg #[.int .u8 4, .int .i64 0, .int .i64 0, .int .i64 0, .int .i64 0, .int .i64 n, .int .i64 d], .int .i64 n, .int .i64 d] w fun e w' => e = .returned (.agg #[.int .u8 4, .int .i64 0, .int .i64 0, .int .i64 0, .int .i64 0, .int .i64 (mk (numV u) (denV v)).1, .int .i64 (mk (numV u) (denV v)).2.1]) ∧ ∃ x, w' = ext w x := by
  subst hn hd
  have e1 : (u : Int) - 1073741824 + 1073741824 = u := by omega
  have e2 : Int.tmod (u : Int) 2147483649 = (u : Int) % 2147483649 := Int.tmod_eq_emod_of_nonneg (by omega)
  have e3 : (u : Int) % 2147483649 - 1073741824 = numV u := rfl
  have e4 := numV_range u
  have e5 := denV_range v
  have e6 : Int.tmod (v : Int) 1024 = (v : Int) % 1024 := Int.tmod_eq_emod_of_nonneg (by omega)
  rcases (by omega : (1 ≤ v ∧ v ≤ 1024) ∨ v < 1 ∨ 1024 < v) with hd | hd | hd
  · have D := Lib.hid (denV_in hd)
    have d1 : ¬ (v : Int) < 1 := by omega
    have d2 : ¬ 1024 < (v : Int) := by omega
    rw [D.out]
    go_enter Try.func40, Try.ntmps40
    go_wp2_with ((go_at_call 51; refine (make_any _ _ _ (by omega) (by omega)).mono ?_; rintro e _ ⟨rfl, nx, rfl⟩))
    exact bodyPost_ret (v := .agg #[.int .u8 4, .int .i64 0, .int .i64 0, .int .i64 0, .int .i64 0, .int .i64 (mk (numV u) v).1, .int .i64 (mk (numV u) v).2.1]) (by simp [results, Try.results40, go_sem, Ask.zero]) rfl ⟨rfl, ext_of (by (try simp only [ext_ext]); repeat (first | exact Bel.refl _ | assumption | refine bel_and ?_ _ | refine bel_drews ?_ _ | refine Bel.ext ?_ _ | refine Bel.alloc ?_ _ | refine Bel.drewN ?_ _))⟩
  · have p3 : 1 + (v : Int) % 1024 = denV v := (denV_out (.inl hd)).symm
    have d1 : (v : Int) < 1 := by omega
    go_enter Try.func40, Try.ntmps40
    go_wp2_with ((go_at_call 51; refine (make_any _ _ _ (by omega) (by omega)).mono ?_; rintro e _ ⟨rfl, nx, rfl⟩))
    exact bodyPost_ret (v := .agg #[.int .u8 4, .int .i64 0, .int .i64 0, .int .i64 0, .int .i64 0, .int .i64 (mk (numV u) (denV v)).1, .int .i64 (mk (numV u) (denV v)).2.1]) (by simp [results, Try.results40, go_sem, Ask.zero]) rfl ⟨rfl, ext_of (by (try simp only [ext_ext]); repeat (first | exact Bel.refl _ | assumption | refine bel_and ?_ _ | refine bel_drews ?_ _ | refine Bel.ext ?_ _ | refine Bel.alloc ?_ _ | refine Bel.drewN ?_ _))⟩
  · have p3 : 1 + (v : Int) % 1024 = denV v := (denV_out (.inr hd)).symm
    have d1 : ¬ (v : Int) < 1 := by omega
    have d2 : 1024 < (v : Int) := by omega
    go_enter Try.func40, Try.ntmps40
    go_wp2_with ((go_at_call 51; refine (make_any _ _ _ (by omega) (by omega)).mono ?_; rintro e _ ⟨rfl, nx, rfl⟩))
    exact bodyPost_ret (v := .agg #[.int .u8 4, .int .i64 0, .int .i64 0, .int .i64 0, .int .i64 0, .int .i64 (mk (numV u) (denV v)).1, .int .i64 (mk (numV u) (denV v)).2.1]) (by simp [results, Try.results40, go_sem, Ask.zero]) rfl ⟨rfl, ext_of (by (try simp only [ext_ext]); repeat (first | exact Bel.refl _ | assumption | refine bel_and ?_ _ | refine bel_drews ?_ _ | refine Bel.ext ?_ _ | refine Bel.alloc ?_ _ | refine Bel.drewN ?_ _))⟩
end Go.Proofs.Ytijinelgbiombaa
