/- decode.Encode: the bytes of a valid ask. -/
import Derived.Test.YtijinelgbiombaaDec8
set_option linter.unusedSimpArgs false
set_option linter.unusedVariables false
namespace Go.Proofs.Ytijinelgbiombaa
open Go.RowKit Go.Pel
set_option maxRecDepth 10000 in
set_option maxHeartbeats 8000000 in
theorem enc_put1 (i a b j n d : Int) (w : World) (hi : -9223372036854775808 ≤ i ∧ i ≤ 9223372036854775807) (ha : -9223372036854775808 ≤ a ∧ a ≤ 9223372036854775807) (hb : -9223372036854775808 ≤ b ∧ b ≤ 9223372036854775807) (hj : -9223372036854775808 ≤ j ∧ j ≤ 9223372036854775807) (hn : -9223372036854775808 ≤ n ∧ n ≤ 9223372036854775807) (hd : -9223372036854775808 ≤ d ∧ d ≤ 9223372036854775807) (e0 : askChk 1 i a b j n d = 0) (h1 : 0 ≤ i) (h2 : i ≤ 65535) (h3 : -1048576 ≤ a) (h4 : a ≤ 1048576) (h5 : -1048576 ≤ b) (h6 : b ≤ 1048576) :
    Calls Try.prog 10 #[.agg #[.int .u8 1, .int .i64 i, .int .i64 a, .int .i64 b, .int .i64 j, .int .i64 n, .int .i64 d]] w fun e w' => ∃ A c, e = .returned (.tuple #[.slice A 9 c, .int .i64 0]) ∧ ∃ x, w' = ext w x ∧ Own (ext w x) w.heap.size 5 1 A 9 c (vb (1 :: (dig 2 i.toNat ++ dig 3 (a + 1048576).toNat ++ dig 3 (b + 1048576).toNat))) := by
  obtain ⟨hi1, hi2⟩ := hi; obtain ⟨ha1, ha2⟩ := ha; obtain ⟨hb1, hb2⟩ := hb; obtain ⟨hj1, hj2⟩ := hj; obtain ⟨hn1, hn2⟩ := hn; obtain ⟨hd1, hd2⟩ := hd
  have sp0 := Lib.hid (spell2 (n := i) (by omega) (by omega))
  have sp1 := Lib.hid (spell3 (n := a + 1048576) (by omega) (by omega))
  have sp2 := Lib.hid (spell3 (n := b + 1048576) (by omega) (by omega))
  go_enter Try.func10, Try.ntmps10
  go_wp2_with (first | (go_at_call 14; refine (e0 ▸ decCheck_any 1 i a b j n d _ (by omega) (by omega)).mono ?_; rintro e _ ⟨rfl, nx, rfl⟩))
  go_region_held3 (fun w' => w'.cell? ⟨w.heap.size, 0, none⟩ = some (.int .u8 1)) (simp [go_sem]) ((go_at_call 29; refine (fields_any _).mono ?_; rintro e _ ⟨g1, g2, g3, rfl, x, rfl, hs1, hs2, hs3⟩))
  go_wp2
  (try simp only [ext_drew, ext_drewN, ext_ext, drew_ext, drewN_ext, World.alloc_drew] at hs1)
  have c0 := hs1.at_ (j := 0) rfl
  have c1 := hs1.at_ (j := 1) rfl
  have c2 := hs1.at_ (j := 2) rfl
  have c3 := hs1.at_ (j := 3) rfl
  have c4 := hs1.at_ (j := 4) rfl
  have c5 := hs1.at_ (j := 5) rfl
  have c6 := hs1.at_ (j := 6) rfl
  have c7 := hs1.at_ (j := 7) rfl
  have c8 := hs1.at_ (j := 8) rfl
  have hg := hs1.1
  simp only [size_ext, World.size_alloc] at hg
  have hout := sl_new (ext (w.alloc (.cells #[.int .u8 1, .int .i64 i, .int .i64 a, .int .i64 b, .int .i64 j, .int .i64 n, .int .i64 d] 27)) nx) #[.int .u8 1] 5 1 (w.heap.size + 1 + nx.len) (by simp [go_sem]) rfl
  have Hout := Lib.hid hout; clear hout
  refine wp_loop_rounds 4 ?_
  rw [rounds_succ]
  go_wp2
  ((first | refine RegC.wp_region_ext1 (by kernel_rfl) (by kernel_rfl) ?_ | refine RegC.wp_region_ext0 (by kernel_rfl) (by kernel_rfl) ?_); (repeat (any_goals (first | go_big_quiet_step ((go_at_call 30; first | exact Calls.ext_of1 (get_1 _ _ _ _ _ _ _ _ (by omega) (by omega) (by omega) (by omega) (by omega) (by omega)) | exact Calls.ext_of (get_1 _ _ _ _ _ _ _ _ (by omega) (by omega) (by omega) (by omega) (by omega) (by omega)))) | (refine RegC.wpQuiet_split rfl rfl (fun hb => ?_) (fun hb => ?_) <;> simp only [hb])))); all_goals (refine wpQuiet_nil ?_; rintro _ ⟨nq, rfl⟩))
  go_wp2
  refine wp_loop_rounds 3 ?_
  rw [rounds_succ]
  go_wp2_with (at_builtin; (try refine wpList_unguard rfl (by first | rfl | simp [yielded]) ?_); refine grow1_ext slt_bytes Hout.out (by (try simp only [ext_ext]); repeat (first | exact Bel.refl _ | assumption | refine bel_and ?_ _ | refine bel_drews ?_ _ | refine Bel.ext ?_ _ | refine Bel.alloc ?_ _ | refine Bel.drewN ?_ _)) rfl (by omega) rfl _ _ rfl rfl rfl (by simp [go_sem]) ?_; rintro A2 c2 y2 hown2)
  rw [rounds_succ]
  go_wp2_with (at_builtin; (try refine wpList_unguard rfl (by first | rfl | simp [yielded]) ?_); refine append1_ext slt_bytes (by (try simp only [ext_ext]); repeat (first | exact Bel.refl _ | assumption | refine bel_and ?_ _ | refine bel_drews ?_ _ | refine Bel.ext ?_ _ | refine Bel.alloc ?_ _ | refine Bel.drewN ?_ _)) hown2 (by (try simp only [ext_ext]); repeat (first | exact Bel.refl _ | assumption | refine bel_and ?_ _ | refine bel_drews ?_ _ | refine Bel.ext ?_ _ | refine Bel.alloc ?_ _ | refine Bel.drewN ?_ _)) (by simp [Value.oneCell']) rfl (by omega) rfl _ _ rfl rfl rfl (by simp [go_sem]) ?_; rintro A3 c3 y3 hown3)
  rw [rounds_succ]
  go_wp2
  rw [rounds_succ]
  go_wp2
  ((first | refine RegC.wp_region_ext1 (by kernel_rfl) (by kernel_rfl) ?_ | refine RegC.wp_region_ext0 (by kernel_rfl) (by kernel_rfl) ?_); (repeat (any_goals (first | go_big_quiet_step ((go_at_call 30; first | exact Calls.ext_of1 (get_2 _ _ _ _ _ _ _ _ (by omega) (by omega) (by omega) (by omega) (by omega) (by omega)) | exact Calls.ext_of (get_2 _ _ _ _ _ _ _ _ (by omega) (by omega) (by omega) (by omega) (by omega) (by omega)))) | (refine RegC.wpQuiet_split rfl rfl (fun hb => ?_) (fun hb => ?_) <;> simp only [hb])))); all_goals (refine wpQuiet_nil ?_; rintro _ ⟨nq, rfl⟩))
  go_wp2
  refine wp_loop_rounds 4 ?_
  rw [rounds_succ]
  go_wp2_with (at_builtin; (try refine wpList_unguard rfl (by first | rfl | simp [yielded]) ?_); refine append1_ext slt_bytes (by (try simp only [ext_ext]); repeat (first | exact Bel.refl _ | assumption | refine bel_and ?_ _ | refine bel_drews ?_ _ | refine Bel.ext ?_ _ | refine Bel.alloc ?_ _ | refine Bel.drewN ?_ _)) hown3 (by (try simp only [ext_ext]); repeat (first | exact Bel.refl _ | assumption | refine bel_and ?_ _ | refine bel_drews ?_ _ | refine Bel.ext ?_ _ | refine Bel.alloc ?_ _ | refine Bel.drewN ?_ _)) (by simp [Value.oneCell']) rfl (by omega) rfl _ _ rfl rfl rfl (by simp [go_sem]) ?_; rintro A4 c4 y4 hown4)
  rw [rounds_succ]
  go_wp2_with (at_builtin; (try refine wpList_unguard rfl (by first | rfl | simp [yielded]) ?_); refine append1_ext slt_bytes (by (try simp only [ext_ext]); repeat (first | exact Bel.refl _ | assumption | refine bel_and ?_ _ | refine bel_drews ?_ _ | refine Bel.ext ?_ _ | refine Bel.alloc ?_ _ | refine Bel.drewN ?_ _)) hown4 (by (try simp only [ext_ext]); repeat (first | exact Bel.refl _ | assumption | refine bel_and ?_ _ | refine bel_drews ?_ _ | refine Bel.ext ?_ _ | refine Bel.alloc ?_ _ | refine Bel.drewN ?_ _)) (by simp [Value.oneCell']) rfl (by omega) rfl _ _ rfl rfl rfl (by simp [go_sem]) ?_; rintro A5 c5 y5 hown5)
  rw [rounds_succ]
  go_wp2_with (at_builtin; (try refine wpList_unguard rfl (by first | rfl | simp [yielded]) ?_); refine append1_ext slt_bytes (by (try simp only [ext_ext]); repeat (first | exact Bel.refl _ | assumption | refine bel_and ?_ _ | refine bel_drews ?_ _ | refine Bel.ext ?_ _ | refine Bel.alloc ?_ _ | refine Bel.drewN ?_ _)) hown5 (by (try simp only [ext_ext]); repeat (first | exact Bel.refl _ | assumption | refine bel_and ?_ _ | refine bel_drews ?_ _ | refine Bel.ext ?_ _ | refine Bel.alloc ?_ _ | refine Bel.drewN ?_ _)) (by simp [Value.oneCell']) rfl (by omega) rfl _ _ rfl rfl rfl (by simp [go_sem]) ?_; rintro A6 c6 y6 hown6)
  rw [rounds_succ]
  go_wp2
  rw [rounds_succ]
  go_wp2
  ((first | refine RegC.wp_region_ext1 (by kernel_rfl) (by kernel_rfl) ?_ | refine RegC.wp_region_ext0 (by kernel_rfl) (by kernel_rfl) ?_); (repeat (any_goals (first | go_big_quiet_step ((go_at_call 30; first | exact Calls.ext_of1 (get_3 _ _ _ _ _ _ _ _ (by omega) (by omega) (by omega) (by omega) (by omega) (by omega)) | exact Calls.ext_of (get_3 _ _ _ _ _ _ _ _ (by omega) (by omega) (by omega) (by omega) (by omega) (by omega)))) | (refine RegC.wpQuiet_split rfl rfl (fun hb => ?_) (fun hb => ?_) <;> simp only [hb])))); all_goals (refine wpQuiet_nil ?_; rintro _ ⟨nq, rfl⟩))
  go_wp2
  refine wp_loop_rounds 4 ?_
  rw [rounds_succ]
  go_wp2_with (at_builtin; (try refine wpList_unguard rfl (by first | rfl | simp [yielded]) ?_); refine append1_ext slt_bytes (by (try simp only [ext_ext]); repeat (first | exact Bel.refl _ | assumption | refine bel_and ?_ _ | refine bel_drews ?_ _ | refine Bel.ext ?_ _ | refine Bel.alloc ?_ _ | refine Bel.drewN ?_ _)) hown6 (by (try simp only [ext_ext]); repeat (first | exact Bel.refl _ | assumption | refine bel_and ?_ _ | refine bel_drews ?_ _ | refine Bel.ext ?_ _ | refine Bel.alloc ?_ _ | refine Bel.drewN ?_ _)) (by simp [Value.oneCell']) rfl (by omega) rfl _ _ rfl rfl rfl (by simp [go_sem]) ?_; rintro A7 c7 y7 hown7)
  rw [rounds_succ]
  go_wp2_with (at_builtin; (try refine wpList_unguard rfl (by first | rfl | simp [yielded]) ?_); refine append1_ext slt_bytes (by (try simp only [ext_ext]); repeat (first | exact Bel.refl _ | assumption | refine bel_and ?_ _ | refine bel_drews ?_ _ | refine Bel.ext ?_ _ | refine Bel.alloc ?_ _ | refine Bel.drewN ?_ _)) hown7 (by (try simp only [ext_ext]); repeat (first | exact Bel.refl _ | assumption | refine bel_and ?_ _ | refine bel_drews ?_ _ | refine Bel.ext ?_ _ | refine Bel.alloc ?_ _ | refine Bel.drewN ?_ _)) (by simp [Value.oneCell']) rfl (by omega) rfl _ _ rfl rfl rfl (by simp [go_sem]) ?_; rintro A8 c8 y8 hown8)
  rw [rounds_succ]
  go_wp2_with (at_builtin; (try refine wpList_unguard rfl (by first | rfl | simp [yielded]) ?_); refine append1_ext slt_bytes (by (try simp only [ext_ext]); repeat (first | exact Bel.refl _ | assumption | refine bel_and ?_ _ | refine bel_drews ?_ _ | refine Bel.ext ?_ _ | refine Bel.alloc ?_ _ | refine Bel.drewN ?_ _)) hown8 (by (try simp only [ext_ext]); repeat (first | exact Bel.refl _ | assumption | refine bel_and ?_ _ | refine bel_drews ?_ _ | refine Bel.ext ?_ _ | refine Bel.alloc ?_ _ | refine Bel.drewN ?_ _)) (by simp [Value.oneCell']) rfl (by omega) rfl _ _ rfl rfl rfl (by simp [go_sem]) ?_; rintro A9 c9 y9 hown9)
  rw [rounds_succ]
  go_wp2
  rw [rounds_succ]
  go_wp2
  go_ret2
  exact ⟨_, _, rfl, own_ret (by (try simp only [ext_ext]); repeat (first | exact Bel.refl _ | assumption | refine bel_and ?_ _ | refine bel_drews ?_ _ | refine Bel.ext ?_ _ | refine Bel.alloc ?_ _ | refine Bel.drewN ?_ _)) (by first | simpa [vb_cons, vb_append, sp0.out, sp1.out, sp2.out] using hown9 | (trace_state; done)) (by (try simp only [ext_ext]); repeat (first | exact Bel.refl _ | assumption | refine bel_and ?_ _ | refine bel_drews ?_ _ | refine Bel.ext ?_ _ | refine Bel.alloc ?_ _ | refine Bel.drewN ?_ _)) (by simp [go_sem])⟩

set_option maxRecDepth 10000 in
set_option maxHeartbeats 8000000 in
theorem enc_put3 (i a b j n d : Int) (w : World) (hi : -9223372036854775808 ≤ i ∧ i ≤ 9223372036854775807) (ha : -9223372036854775808 ≤ a ∧ a ≤ 9223372036854775807) (hb : -9223372036854775808 ≤ b ∧ b ≤ 9223372036854775807) (hj : -9223372036854775808 ≤ j ∧ j ≤ 9223372036854775807) (hn : -9223372036854775808 ≤ n ∧ n ≤ 9223372036854775807) (hd : -9223372036854775808 ≤ d ∧ d ≤ 9223372036854775807) (e0 : askChk 3 i a b j n d = 0) (h1 : 0 ≤ i) (h2 : i ≤ 65535) (h3 : -1048576 ≤ a) (h4 : a ≤ 1048576) (h5 : -1048576 ≤ b) (h6 : b ≤ 1048576) :
    Calls Try.prog 10 #[.agg #[.int .u8 3, .int .i64 i, .int .i64 a, .int .i64 b, .int .i64 j, .int .i64 n, .int .i64 d]] w fun e w' => ∃ A c, e = .returned (.tuple #[.slice A 9 c, .int .i64 0]) ∧ ∃ x, w' = ext w x ∧ Own (ext w x) w.heap.size 5 1 A 9 c (vb (3 :: (dig 2 i.toNat ++ dig 3 (a + 1048576).toNat ++ dig 3 (b + 1048576).toNat))) := by
  obtain ⟨hi1, hi2⟩ := hi; obtain ⟨ha1, ha2⟩ := ha; obtain ⟨hb1, hb2⟩ := hb; obtain ⟨hj1, hj2⟩ := hj; obtain ⟨hn1, hn2⟩ := hn; obtain ⟨hd1, hd2⟩ := hd
  have sp0 := Lib.hid (spell2 (n := i) (by omega) (by omega))
  have sp1 := Lib.hid (spell3 (n := a + 1048576) (by omega) (by omega))
  have sp2 := Lib.hid (spell3 (n := b + 1048576) (by omega) (by omega))
  go_enter Try.func10, Try.ntmps10
  go_wp2_with (first | (go_at_call 14; refine (e0 ▸ decCheck_any 3 i a b j n d _ (by omega) (by omega)).mono ?_; rintro e _ ⟨rfl, nx, rfl⟩))
  go_region_held3 (fun w' => w'.cell? ⟨w.heap.size, 0, none⟩ = some (.int .u8 3)) (simp [go_sem]) ((go_at_call 29; refine (fields_any _).mono ?_; rintro e _ ⟨g1, g2, g3, rfl, x, rfl, hs1, hs2, hs3⟩))
  go_wp2
  (try simp only [ext_drew, ext_drewN, ext_ext, drew_ext, drewN_ext, World.alloc_drew] at hs1)
  have c0 := hs1.at_ (j := 0) rfl
  have c1 := hs1.at_ (j := 1) rfl
  have c2 := hs1.at_ (j := 2) rfl
  have c3 := hs1.at_ (j := 3) rfl
  have c4 := hs1.at_ (j := 4) rfl
  have c5 := hs1.at_ (j := 5) rfl
  have c6 := hs1.at_ (j := 6) rfl
  have c7 := hs1.at_ (j := 7) rfl
  have c8 := hs1.at_ (j := 8) rfl
  have hg := hs1.1
  simp only [size_ext, World.size_alloc] at hg
  have hout := sl_new (ext (w.alloc (.cells #[.int .u8 3, .int .i64 i, .int .i64 a, .int .i64 b, .int .i64 j, .int .i64 n, .int .i64 d] 27)) nx) #[.int .u8 3] 5 1 (w.heap.size + 1 + nx.len) (by simp [go_sem]) rfl
  have Hout := Lib.hid hout; clear hout
  refine wp_loop_rounds 4 ?_
  rw [rounds_succ]
  go_wp2
  ((first | refine RegC.wp_region_ext1 (by kernel_rfl) (by kernel_rfl) ?_ | refine RegC.wp_region_ext0 (by kernel_rfl) (by kernel_rfl) ?_); (repeat (any_goals (first | go_big_quiet_step ((go_at_call 30; first | exact Calls.ext_of1 (get_1 _ _ _ _ _ _ _ _ (by omega) (by omega) (by omega) (by omega) (by omega) (by omega)) | exact Calls.ext_of (get_1 _ _ _ _ _ _ _ _ (by omega) (by omega) (by omega) (by omega) (by omega) (by omega)))) | (refine RegC.wpQuiet_split rfl rfl (fun hb => ?_) (fun hb => ?_) <;> simp only [hb])))); all_goals (refine wpQuiet_nil ?_; rintro _ ⟨nq, rfl⟩))
  go_wp2
  refine wp_loop_rounds 3 ?_
  rw [rounds_succ]
  go_wp2_with (at_builtin; (try refine wpList_unguard rfl (by first | rfl | simp [yielded]) ?_); refine grow1_ext slt_bytes Hout.out (by (try simp only [ext_ext]); repeat (first | exact Bel.refl _ | assumption | refine bel_and ?_ _ | refine bel_drews ?_ _ | refine Bel.ext ?_ _ | refine Bel.alloc ?_ _ | refine Bel.drewN ?_ _)) rfl (by omega) rfl _ _ rfl rfl rfl (by simp [go_sem]) ?_; rintro A2 c2 y2 hown2)
  rw [rounds_succ]
  go_wp2_with (at_builtin; (try refine wpList_unguard rfl (by first | rfl | simp [yielded]) ?_); refine append1_ext slt_bytes (by (try simp only [ext_ext]); repeat (first | exact Bel.refl _ | assumption | refine bel_and ?_ _ | refine bel_drews ?_ _ | refine Bel.ext ?_ _ | refine Bel.alloc ?_ _ | refine Bel.drewN ?_ _)) hown2 (by (try simp only [ext_ext]); repeat (first | exact Bel.refl _ | assumption | refine bel_and ?_ _ | refine bel_drews ?_ _ | refine Bel.ext ?_ _ | refine Bel.alloc ?_ _ | refine Bel.drewN ?_ _)) (by simp [Value.oneCell']) rfl (by omega) rfl _ _ rfl rfl rfl (by simp [go_sem]) ?_; rintro A3 c3 y3 hown3)
  rw [rounds_succ]
  go_wp2
  rw [rounds_succ]
  go_wp2
  ((first | refine RegC.wp_region_ext1 (by kernel_rfl) (by kernel_rfl) ?_ | refine RegC.wp_region_ext0 (by kernel_rfl) (by kernel_rfl) ?_); (repeat (any_goals (first | go_big_quiet_step ((go_at_call 30; first | exact Calls.ext_of1 (get_2 _ _ _ _ _ _ _ _ (by omega) (by omega) (by omega) (by omega) (by omega) (by omega)) | exact Calls.ext_of (get_2 _ _ _ _ _ _ _ _ (by omega) (by omega) (by omega) (by omega) (by omega) (by omega)))) | (refine RegC.wpQuiet_split rfl rfl (fun hb => ?_) (fun hb => ?_) <;> simp only [hb])))); all_goals (refine wpQuiet_nil ?_; rintro _ ⟨nq, rfl⟩))
  go_wp2
  refine wp_loop_rounds 4 ?_
  rw [rounds_succ]
  go_wp2_with (at_builtin; (try refine wpList_unguard rfl (by first | rfl | simp [yielded]) ?_); refine append1_ext slt_bytes (by (try simp only [ext_ext]); repeat (first | exact Bel.refl _ | assumption | refine bel_and ?_ _ | refine bel_drews ?_ _ | refine Bel.ext ?_ _ | refine Bel.alloc ?_ _ | refine Bel.drewN ?_ _)) hown3 (by (try simp only [ext_ext]); repeat (first | exact Bel.refl _ | assumption | refine bel_and ?_ _ | refine bel_drews ?_ _ | refine Bel.ext ?_ _ | refine Bel.alloc ?_ _ | refine Bel.drewN ?_ _)) (by simp [Value.oneCell']) rfl (by omega) rfl _ _ rfl rfl rfl (by simp [go_sem]) ?_; rintro A4 c4 y4 hown4)
  rw [rounds_succ]
  go_wp2_with (at_builtin; (try refine wpList_unguard rfl (by first | rfl | simp [yielded]) ?_); refine append1_ext slt_bytes (by (try simp only [ext_ext]); repeat (first | exact Bel.refl _ | assumption | refine bel_and ?_ _ | refine bel_drews ?_ _ | refine Bel.ext ?_ _ | refine Bel.alloc ?_ _ | refine Bel.drewN ?_ _)) hown4 (by (try simp only [ext_ext]); repeat (first | exact Bel.refl _ | assumption | refine bel_and ?_ _ | refine bel_drews ?_ _ | refine Bel.ext ?_ _ | refine Bel.alloc ?_ _ | refine Bel.drewN ?_ _)) (by simp [Value.oneCell']) rfl (by omega) rfl _ _ rfl rfl rfl (by simp [go_sem]) ?_; rintro A5 c5 y5 hown5)
  rw [rounds_succ]
  go_wp2_with (at_builtin; (try refine wpList_unguard rfl (by first | rfl | simp [yielded]) ?_); refine append1_ext slt_bytes (by (try simp only [ext_ext]); repeat (first | exact Bel.refl _ | assumption | refine bel_and ?_ _ | refine bel_drews ?_ _ | refine Bel.ext ?_ _ | refine Bel.alloc ?_ _ | refine Bel.drewN ?_ _)) hown5 (by (try simp only [ext_ext]); repeat (first | exact Bel.refl _ | assumption | refine bel_and ?_ _ | refine bel_drews ?_ _ | refine Bel.ext ?_ _ | refine Bel.alloc ?_ _ | refine Bel.drewN ?_ _)) (by simp [Value.oneCell']) rfl (by omega) rfl _ _ rfl rfl rfl (by simp [go_sem]) ?_; rintro A6 c6 y6 hown6)
  rw [rounds_succ]
  go_wp2
  rw [rounds_succ]
  go_wp2
  ((first | refine RegC.wp_region_ext1 (by kernel_rfl) (by kernel_rfl) ?_ | refine RegC.wp_region_ext0 (by kernel_rfl) (by kernel_rfl) ?_); (repeat (any_goals (first | go_big_quiet_step ((go_at_call 30; first | exact Calls.ext_of1 (get_3 _ _ _ _ _ _ _ _ (by omega) (by omega) (by omega) (by omega) (by omega) (by omega)) | exact Calls.ext_of (get_3 _ _ _ _ _ _ _ _ (by omega) (by omega) (by omega) (by omega) (by omega) (by omega)))) | (refine RegC.wpQuiet_split rfl rfl (fun hb => ?_) (fun hb => ?_) <;> simp only [hb])))); all_goals (refine wpQuiet_nil ?_; rintro _ ⟨nq, rfl⟩))
  go_wp2
  refine wp_loop_rounds 4 ?_
  rw [rounds_succ]
  go_wp2_with (at_builtin; (try refine wpList_unguard rfl (by first | rfl | simp [yielded]) ?_); refine append1_ext slt_bytes (by (try simp only [ext_ext]); repeat (first | exact Bel.refl _ | assumption | refine bel_and ?_ _ | refine bel_drews ?_ _ | refine Bel.ext ?_ _ | refine Bel.alloc ?_ _ | refine Bel.drewN ?_ _)) hown6 (by (try simp only [ext_ext]); repeat (first | exact Bel.refl _ | assumption | refine bel_and ?_ _ | refine bel_drews ?_ _ | refine Bel.ext ?_ _ | refine Bel.alloc ?_ _ | refine Bel.drewN ?_ _)) (by simp [Value.oneCell']) rfl (by omega) rfl _ _ rfl rfl rfl (by simp [go_sem]) ?_; rintro A7 c7 y7 hown7)
  rw [rounds_succ]
  go_wp2_with (at_builtin; (try refine wpList_unguard rfl (by first | rfl | simp [yielded]) ?_); refine append1_ext slt_bytes (by (try simp only [ext_ext]); repeat (first | exact Bel.refl _ | assumption | refine bel_and ?_ _ | refine bel_drews ?_ _ | refine Bel.ext ?_ _ | refine Bel.alloc ?_ _ | refine Bel.drewN ?_ _)) hown7 (by (try simp only [ext_ext]); repeat (first | exact Bel.refl _ | assumption | refine bel_and ?_ _ | refine bel_drews ?_ _ | refine Bel.ext ?_ _ | refine Bel.alloc ?_ _ | refine Bel.drewN ?_ _)) (by simp [Value.oneCell']) rfl (by omega) rfl _ _ rfl rfl rfl (by simp [go_sem]) ?_; rintro A8 c8 y8 hown8)
  rw [rounds_succ]
  go_wp2_with (at_builtin; (try refine wpList_unguard rfl (by first | rfl | simp [yielded]) ?_); refine append1_ext slt_bytes (by (try simp only [ext_ext]); repeat (first | exact Bel.refl _ | assumption | refine bel_and ?_ _ | refine bel_drews ?_ _ | refine Bel.ext ?_ _ | refine Bel.alloc ?_ _ | refine Bel.drewN ?_ _)) hown8 (by (try simp only [ext_ext]); repeat (first | exact Bel.refl _ | assumption | refine bel_and ?_ _ | refine bel_drews ?_ _ | refine Bel.ext ?_ _ | refine Bel.alloc ?_ _ | refine Bel.drewN ?_ _)) (by simp [Value.oneCell']) rfl (by omega) rfl _ _ rfl rfl rfl (by simp [go_sem]) ?_; rintro A9 c9 y9 hown9)
  rw [rounds_succ]
  go_wp2
  rw [rounds_succ]
  go_wp2
  go_ret2
  exact ⟨_, _, rfl, own_ret (by (try simp only [ext_ext]); repeat (first | exact Bel.refl _ | assumption | refine bel_and ?_ _ | refine bel_drews ?_ _ | refine Bel.ext ?_ _ | refine Bel.alloc ?_ _ | refine Bel.drewN ?_ _)) (by first | simpa [vb_cons, vb_append, sp0.out, sp1.out, sp2.out] using hown9 | (trace_state; done)) (by (try simp only [ext_ext]); repeat (first | exact Bel.refl _ | assumption | refine bel_and ?_ _ | refine bel_drews ?_ _ | refine Bel.ext ?_ _ | refine Bel.alloc ?_ _ | refine Bel.drewN ?_ _)) (by simp [go_sem])⟩
end Go.Proofs.Ytijinelgbiombaa
