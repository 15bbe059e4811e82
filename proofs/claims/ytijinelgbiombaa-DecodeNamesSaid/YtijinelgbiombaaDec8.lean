/- decode.Encode: the bytes of a valid ask. -/
import Derived.Test.YtijinelgbiombaaDec7
import Derived.Deep.RegionHeld3
set_option linter.unusedSimpArgs false
set_option linter.unusedVariables false
namespace Go.Proofs.Ytijinelgbiombaa
open Go.RowKit Go.Pel
theorem spell2 {n : Int} (h0 : 0 ≤ n) (h1 : n < 65536) : vb (dig 2 n.toNat) = [.int .u8 (n / 256), .int .u8 (n % 256)] := by
  simp [dig, vb]; omega
theorem spell3 {n : Int} (h0 : 0 ≤ n) (h1 : n < 16777216) : vb (dig 3 n.toNat) = [.int .u8 (n / 65536), .int .u8 (n / 256 % 256), .int .u8 (n % 256)] := by
  simp [dig, vb]; omega
theorem spell4 {n : Int} (h0 : 0 ≤ n) (h1 : n < 4294967296) : vb (dig 4 n.toNat) = [.int .u8 (n / 16777216), .int .u8 (n / 65536 % 256), .int .u8 (n / 256 % 256), .int .u8 (n % 256)] := by
  simp [dig, vb]; omega
set_option maxRecDepth 10000 in
set_option maxHeartbeats 8000000 in
theorem enc_take (i a b j n d : Int) (w : World) (hi : -9223372036854775808 ≤ i ∧ i ≤ 9223372036854775807) (ha : -9223372036854775808 ≤ a ∧ a ≤ 9223372036854775807) (hb : -9223372036854775808 ≤ b ∧ b ≤ 9223372036854775807) (hj : -9223372036854775808 ≤ j ∧ j ≤ 9223372036854775807) (hn : -9223372036854775808 ≤ n ∧ n ≤ 9223372036854775807) (hd : -9223372036854775808 ≤ d ∧ d ≤ 9223372036854775807) (e0 : askChk 2 i a b j n d = 0) (h1 : 0 ≤ j) (h2 : j ≤ 65535) :
    Calls Try.prog 10 #[.agg #[.int .u8 2, .int .i64 i, .int .i64 a, .int .i64 b, .int .i64 j, .int .i64 n, .int .i64 d]] w fun e w' => ∃ A c, e = .returned (.tuple #[.slice A 3 c, .int .i64 0]) ∧ ∃ x, w' = ext w x ∧ Own (ext w x) w.heap.size 5 1 A 3 c (vb (2 :: dig 2 j.toNat)) := by
  obtain ⟨hi1, hi2⟩ := hi; obtain ⟨ha1, ha2⟩ := ha; obtain ⟨hb1, hb2⟩ := hb; obtain ⟨hj1, hj2⟩ := hj; obtain ⟨hn1, hn2⟩ := hn; obtain ⟨hd1, hd2⟩ := hd
  have sp0 := Lib.hid (spell2 (n := j) (by omega) (by omega))
  go_enter Try.func10, Try.ntmps10
  go_wp2_with (first | (go_at_call 14; refine (e0 ▸ decCheck_any 2 i a b j n d _ (by omega) (by omega)).mono ?_; rintro e _ ⟨rfl, nx, rfl⟩))
  go_region_held3 (fun w' => w'.cell? ⟨w.heap.size, 0, none⟩ = some (.int .u8 2)) (simp [go_sem]) ((go_at_call 29; refine (fields_any _).mono ?_; rintro e _ ⟨g1, g2, g3, rfl, x, rfl, hs1, hs2, hs3⟩))
  go_wp2
  (try simp only [ext_drew, ext_drewN, ext_ext, drew_ext, drewN_ext, World.alloc_drew] at hs2)
  have c0 := hs2.at_ (j := 0) rfl
  have c1 := hs2.at_ (j := 1) rfl
  have c2 := hs2.at_ (j := 2) rfl
  have hg := hs2.1
  simp only [size_ext, World.size_alloc] at hg
  have hout := sl_new (ext (w.alloc (.cells #[.int .u8 2, .int .i64 i, .int .i64 a, .int .i64 b, .int .i64 j, .int .i64 n, .int .i64 d] 27)) nx) #[.int .u8 2] 5 1 (w.heap.size + 1 + nx.len) (by simp [go_sem]) rfl
  have Hout := Lib.hid hout; clear hout
  refine wp_loop_rounds 2 ?_
  rw [rounds_succ]
  go_wp2
  ((first | refine RegC.wp_region_ext1 (by kernel_rfl) (by kernel_rfl) ?_ | refine RegC.wp_region_ext0 (by kernel_rfl) (by kernel_rfl) ?_); (repeat (any_goals (first | go_big_quiet_step ((go_at_call 30; first | exact Calls.ext_of1 (get_0 _ _ _ _ _ _ _ _ (by omega) (by omega) (by omega) (by omega) (by omega) (by omega)) | exact Calls.ext_of (get_0 _ _ _ _ _ _ _ _ (by omega) (by omega) (by omega) (by omega) (by omega) (by omega)))) | (refine RegC.wpQuiet_split rfl rfl (fun hb => ?_) (fun hb => ?_) <;> simp only [hb])))); all_goals (refine wpQuiet_nil ?_; rintro _ ⟨nq, rfl⟩))
  go_wp2
  refine wp_loop_rounds 3 ?_
  rw [rounds_succ]
  go_wp2_with (at_builtin; (try refine wpList_unguard rfl (by first | rfl | simp [yielded]) ?_); refine grow1_ext slt_bytes Hout.out (by (try simp only [ext_ext]); repeat (first | exact Bel.refl _ | assumption | refine bel_and ?_ _ | refine bel_drews ?_ _ | refine Bel.ext ?_ _ | refine Bel.alloc ?_ _ | refine Bel.drewN ?_ _)) rfl (by omega) rfl _ _ rfl rfl rfl (by simp [go_sem]) ?_; rintro A2 c2 y2 hown2)
  rw [rounds_succ]
  go_wp2_with (at_builtin; (try refine wpList_unguard rfl (by first | rfl | simp [yielded]) ?_); refine append1_ext slt_bytes (by (try simp only [ext_ext]); repeat (first | exact Bel.refl _ | assumption | refine bel_and ?_ _ | refine bel_drews ?_ _ | refine Bel.ext ?_ _ | refine Bel.alloc ?_ _ | refine Bel.drewN ?_ _)) hown2 (by (try simp only [ext_ext]); repeat (first | exact Bel.refl _ | assumption | refine bel_and ?_ _ | refine bel_drews ?_ _ | refine Bel.ext ?_ _ | refine Bel.alloc ?_ _ | refine Bel.drewN ?_ _)) (by simp [Value.oneCell']) rfl (by omega) rfl _ _ rfl rfl rfl (by simp [go_sem]) ?_; rintro A3 c3 y3 hown3)
  rw [rounds_succ]
  go_wp2
  rw [rounds_succ]
  go_wp2
  go_ret2
  exact ⟨_, _, rfl, own_ret (by (try simp only [ext_ext]); repeat (first | exact Bel.refl _ | assumption | refine bel_and ?_ _ | refine bel_drews ?_ _ | refine Bel.ext ?_ _ | refine Bel.alloc ?_ _ | refine Bel.drewN ?_ _)) (by first | simpa [vb_cons, vb_append, sp0.out] using hown3 | (trace_state; done)) (by (try simp only [ext_ext]); repeat (first | exact Bel.refl _ | assumption | refine bel_and ?_ _ | refine bel_drews ?_ _ | refine Bel.ext ?_ _ | refine Bel.alloc ?_ _ | refine Bel.drewN ?_ _)) (by simp [go_sem])⟩

set_option maxRecDepth 10000 in
set_option maxHeartbeats 8000000 in
theorem enc_move (i a b j n d : Int) (w : World) (hi : -9223372036854775808 ≤ i ∧ i ≤ 9223372036854775807) (ha : -9223372036854775808 ≤ a ∧ a ≤ 9223372036854775807) (hb : -9223372036854775808 ≤ b ∧ b ≤ 9223372036854775807) (hj : -9223372036854775808 ≤ j ∧ j ≤ 9223372036854775807) (hn : -9223372036854775808 ≤ n ∧ n ≤ 9223372036854775807) (hd : -9223372036854775808 ≤ d ∧ d ≤ 9223372036854775807) (e0 : askChk 4 i a b j n d = 0) (h1 : -1073741824 ≤ n) (h2 : n ≤ 1073741824) (h3 : 0 ≤ d) (h4 : d ≤ 65535) :
    Calls Try.prog 10 #[.agg #[.int .u8 4, .int .i64 i, .int .i64 a, .int .i64 b, .int .i64 j, .int .i64 n, .int .i64 d]] w fun e w' => ∃ A c, e = .returned (.tuple #[.slice A 7 c, .int .i64 0]) ∧ ∃ x, w' = ext w x ∧ Own (ext w x) w.heap.size 5 1 A 7 c (vb (4 :: (dig 4 (n + 1073741824).toNat ++ dig 2 d.toNat))) := by
  obtain ⟨hi1, hi2⟩ := hi; obtain ⟨ha1, ha2⟩ := ha; obtain ⟨hb1, hb2⟩ := hb; obtain ⟨hj1, hj2⟩ := hj; obtain ⟨hn1, hn2⟩ := hn; obtain ⟨hd1, hd2⟩ := hd
  have sp0 := Lib.hid (spell4 (n := n + 1073741824) (by omega) (by omega))
  have sp1 := Lib.hid (spell2 (n := d) (by omega) (by omega))
  go_enter Try.func10, Try.ntmps10
  go_wp2_with (first | (go_at_call 14; refine (e0 ▸ decCheck_any 4 i a b j n d _ (by omega) (by omega)).mono ?_; rintro e _ ⟨rfl, nx, rfl⟩))
  go_region_held3 (fun w' => w'.cell? ⟨w.heap.size, 0, none⟩ = some (.int .u8 4)) (simp [go_sem]) ((go_at_call 29; refine (fields_any _).mono ?_; rintro e _ ⟨g1, g2, g3, rfl, x, rfl, hs1, hs2, hs3⟩))
  go_wp2
  (try simp only [ext_drew, ext_drewN, ext_ext, drew_ext, drewN_ext, World.alloc_drew] at hs3)
  have c0 := hs3.at_ (j := 0) rfl
  have c1 := hs3.at_ (j := 1) rfl
  have c2 := hs3.at_ (j := 2) rfl
  have c3 := hs3.at_ (j := 3) rfl
  have c4 := hs3.at_ (j := 4) rfl
  have c5 := hs3.at_ (j := 5) rfl
  have hg := hs3.1
  simp only [size_ext, World.size_alloc] at hg
  have hout := sl_new (ext (w.alloc (.cells #[.int .u8 4, .int .i64 i, .int .i64 a, .int .i64 b, .int .i64 j, .int .i64 n, .int .i64 d] 27)) nx) #[.int .u8 4] 5 1 (w.heap.size + 1 + nx.len) (by simp [go_sem]) rfl
  have Hout := Lib.hid hout; clear hout
  refine wp_loop_rounds 3 ?_
  rw [rounds_succ]
  go_wp2
  ((first | refine RegC.wp_region_ext1 (by kernel_rfl) (by kernel_rfl) ?_ | refine RegC.wp_region_ext0 (by kernel_rfl) (by kernel_rfl) ?_); (repeat (any_goals (first | go_big_quiet_step ((go_at_call 30; first | exact Calls.ext_of1 (get_4 _ _ _ _ _ _ _ _ (by omega) (by omega) (by omega) (by omega) (by omega) (by omega)) | exact Calls.ext_of (get_4 _ _ _ _ _ _ _ _ (by omega) (by omega) (by omega) (by omega) (by omega) (by omega)))) | (refine RegC.wpQuiet_split rfl rfl (fun hb => ?_) (fun hb => ?_) <;> simp only [hb])))); all_goals (refine wpQuiet_nil ?_; rintro _ ⟨nq, rfl⟩))
  go_wp2
  refine wp_loop_rounds 5 ?_
  rw [rounds_succ]
  go_wp2_with (at_builtin; (try refine wpList_unguard rfl (by first | rfl | simp [yielded]) ?_); refine grow1_ext slt_bytes Hout.out (by (try simp only [ext_ext]); repeat (first | exact Bel.refl _ | assumption | refine bel_and ?_ _ | refine bel_drews ?_ _ | refine Bel.ext ?_ _ | refine Bel.alloc ?_ _ | refine Bel.drewN ?_ _)) rfl (by omega) rfl _ _ rfl rfl rfl (by simp [go_sem]) ?_; rintro A2 c2 y2 hown2)
  rw [rounds_succ]
  go_wp2_with (at_builtin; (try refine wpList_unguard rfl (by first | rfl | simp [yielded]) ?_); refine append1_ext slt_bytes (by (try simp only [ext_ext]); repeat (first | exact Bel.refl _ | assumption | refine bel_and ?_ _ | refine bel_drews ?_ _ | refine Bel.ext ?_ _ | refine Bel.alloc ?_ _ | refine Bel.drewN ?_ _)) hown2 (by (try simp only [ext_ext]); repeat (first | exact Bel.refl _ | assumption | refine bel_and ?_ _ | refine bel_drews ?_ _ | refine Bel.ext ?_ _ | refine Bel.alloc ?_ _ | refine Bel.drewN ?_ _)) (by simp [Value.oneCell']) rfl (by omega) rfl _ _ rfl rfl rfl (by simp [go_sem]) ?_; rintro A3 c3 y3 hown3)
  rw [rounds_succ]
  go_wp2_with (at_builtin; (try refine wpList_unguard rfl (by first | rfl | simp [yielded]) ?_); refine append1_ext slt_bytes (by (try simp only [ext_ext]); repeat (first | exact Bel.refl _ | assumption | refine bel_and ?_ _ | refine bel_drews ?_ _ | refine Bel.ext ?_ _ | refine Bel.alloc ?_ _ | refine Bel.drewN ?_ _)) hown3 (by (try simp only [ext_ext]); repeat (first | exact Bel.refl _ | assumption | refine bel_and ?_ _ | refine bel_drews ?_ _ | refine Bel.ext ?_ _ | refine Bel.alloc ?_ _ | refine Bel.drewN ?_ _)) (by simp [Value.oneCell']) rfl (by omega) rfl _ _ rfl rfl rfl (by simp [go_sem]) ?_; rintro A4 c4 y4 hown4)
  rw [rounds_succ]
  go_wp2_with (at_builtin; (try refine wpList_unguard rfl (by first | rfl | simp [yielded]) ?_); refine append1_ext slt_bytes (by (try simp only [ext_ext]); repeat (first | exact Bel.refl _ | assumption | refine bel_and ?_ _ | refine bel_drews ?_ _ | refine Bel.ext ?_ _ | refine Bel.alloc ?_ _ | refine Bel.drewN ?_ _)) hown4 (by (try simp only [ext_ext]); repeat (first | exact Bel.refl _ | assumption | refine bel_and ?_ _ | refine bel_drews ?_ _ | refine Bel.ext ?_ _ | refine Bel.alloc ?_ _ | refine Bel.drewN ?_ _)) (by simp [Value.oneCell']) rfl (by omega) rfl _ _ rfl rfl rfl (by simp [go_sem]) ?_; rintro A5 c5 y5 hown5)
  rw [rounds_succ]
  go_wp2
  rw [rounds_succ]
  go_wp2
  ((first | refine RegC.wp_region_ext1 (by kernel_rfl) (by kernel_rfl) ?_ | refine RegC.wp_region_ext0 (by kernel_rfl) (by kernel_rfl) ?_); (repeat (any_goals (first | go_big_quiet_step ((go_at_call 30; first | exact Calls.ext_of1 (get_5 _ _ _ _ _ _ _ _ (by omega) (by omega) (by omega) (by omega) (by omega) (by omega)) | exact Calls.ext_of (get_5 _ _ _ _ _ _ _ _ (by omega) (by omega) (by omega) (by omega) (by omega) (by omega)))) | (refine RegC.wpQuiet_split rfl rfl (fun hb => ?_) (fun hb => ?_) <;> simp only [hb])))); all_goals (refine wpQuiet_nil ?_; rintro _ ⟨nq, rfl⟩))
  go_wp2
  refine wp_loop_rounds 3 ?_
  rw [rounds_succ]
  go_wp2_with (at_builtin; (try refine wpList_unguard rfl (by first | rfl | simp [yielded]) ?_); refine append1_ext slt_bytes (by (try simp only [ext_ext]); repeat (first | exact Bel.refl _ | assumption | refine bel_and ?_ _ | refine bel_drews ?_ _ | refine Bel.ext ?_ _ | refine Bel.alloc ?_ _ | refine Bel.drewN ?_ _)) hown5 (by (try simp only [ext_ext]); repeat (first | exact Bel.refl _ | assumption | refine bel_and ?_ _ | refine bel_drews ?_ _ | refine Bel.ext ?_ _ | refine Bel.alloc ?_ _ | refine Bel.drewN ?_ _)) (by simp [Value.oneCell']) rfl (by omega) rfl _ _ rfl rfl rfl (by simp [go_sem]) ?_; rintro A6 c6 y6 hown6)
  rw [rounds_succ]
  go_wp2_with (at_builtin; (try refine wpList_unguard rfl (by first | rfl | simp [yielded]) ?_); refine append1_ext slt_bytes (by (try simp only [ext_ext]); repeat (first | exact Bel.refl _ | assumption | refine bel_and ?_ _ | refine bel_drews ?_ _ | refine Bel.ext ?_ _ | refine Bel.alloc ?_ _ | refine Bel.drewN ?_ _)) hown6 (by (try simp only [ext_ext]); repeat (first | exact Bel.refl _ | assumption | refine bel_and ?_ _ | refine bel_drews ?_ _ | refine Bel.ext ?_ _ | refine Bel.alloc ?_ _ | refine Bel.drewN ?_ _)) (by simp [Value.oneCell']) rfl (by omega) rfl _ _ rfl rfl rfl (by simp [go_sem]) ?_; rintro A7 c7 y7 hown7)
  rw [rounds_succ]
  go_wp2
  rw [rounds_succ]
  go_wp2
  go_ret2
  exact ⟨_, _, rfl, own_ret (by (try simp only [ext_ext]); repeat (first | exact Bel.refl _ | assumption | refine bel_and ?_ _ | refine bel_drews ?_ _ | refine Bel.ext ?_ _ | refine Bel.alloc ?_ _ | refine Bel.drewN ?_ _)) (by first | simpa [vb_cons, vb_append, sp0.out, sp1.out] using hown7 | (trace_state; done)) (by (try simp only [ext_ext]); repeat (first | exact Bel.refl _ | assumption | refine bel_and ?_ _ | refine bel_drews ?_ _ | refine Bel.ext ?_ _ | refine Bel.alloc ?_ _ | refine Bel.drewN ?_ _)) (by simp [go_sem])⟩
end Go.Proofs.Ytijinelgbiombaa
