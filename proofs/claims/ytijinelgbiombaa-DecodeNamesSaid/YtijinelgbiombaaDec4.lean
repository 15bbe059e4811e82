/- The bytes of a valid ask: the reference's Bytes and Encode. -/
import Derived.Test.YtijinelgbiombaaDec2
import Derived.Test.YtijinelgbiombaaDec3
set_option linter.unusedSimpArgs false
set_option linter.unusedVariables false
namespace Go.Proofs.Ytijinelgbiombaa
open Go.RowKit Go.Pel
theorem digits_lit (n W : Int) (wd : Nat) (hW : W = wd) (w : World) (h0 : 0 ≤ n) (hn : n < 18446744073709551616) (h1 : 1 ≤ wd) (hw : wd ≤ 8) :
    Calls Try.prog 45 #[.int .u64 n, .int .i64 W] w fun e w' => ∃ g c x, e = .returned (.slice (some ⟨g, 0, none⟩) wd c) ∧ w' = ext w x ∧ Own (ext w x) w.heap.size 5 1 (some ⟨g, 0, none⟩) wd c (vb (dig wd n.toNat)) := by
  obtain ⟨m, rfl⟩ := Int.eq_ofNat_of_zero_le h0
  subst hW
  refine (digits_any m wd w (by omega) hw).mono ?_
  rintro e w' ⟨A, c, rfl, x, rfl, hown⟩
  obtain ⟨g, rfl, _⟩ := hown.at_ (by omega)
  exact ⟨g, c, x, rfl, rfl, by simpa using hown⟩

set_option maxHeartbeats 1000000 in
theorem bytes_take (i a b j n d : Int) (w : World) (h1 : 0 ≤ j) (h2 : j ≤ 65535) :
    Calls Try.prog 31 #[.agg #[.int .u8 2, .int .i64 i, .int .i64 a, .int .i64 b, .int .i64 j, .int .i64 n, .int .i64 d]] w fun e w' => ∃ A c, e = .returned (.slice A 3 c) ∧ ∃ x, w' = ext w x ∧ Own (ext w x) w.heap.size 5 1 A (3) c (vb (2 :: dig 2 j.toNat)) := by
  go_enter Try.func31, Try.ntmps31
  go_wp2_with fail
  refine calls_lit0 1 1 (w.heap.size + 1) (by simp) (by decide) rfl ?_
  intro y hown
  refine (digits_lit _ _ 2 rfl _ h1 (by omega) (by omega) (by omega)).mono ?_
  rintro e _ ⟨g, c, x, rfl, rfl, hown2⟩
  go_wp2_with (at_builtin; (try refine wpList_unguard rfl (by first | rfl | simp [yielded]) ?_); refine append_ext slt_bytes (by (try simp only [ext_ext]); repeat (first | exact Bel.refl _ | assumption | refine bel_and ?_ _ | refine bel_drews ?_ _ | refine Bel.ext ?_ _ | refine Bel.alloc ?_ _ | refine Bel.drewN ?_ _)) hown (by (try simp only [ext_ext]); repeat (first | exact Bel.refl _ | assumption | refine bel_and ?_ _ | refine bel_drews ?_ _ | refine Bel.ext ?_ _ | refine Bel.alloc ?_ _ | refine Bel.drewN ?_ _)) hown2.sl (by (try simp only [ext_ext]); repeat (first | exact Bel.refl _ | assumption | refine bel_and ?_ _ | refine bel_drews ?_ _ | refine Bel.ext ?_ _ | refine Bel.alloc ?_ _ | refine Bel.drewN ?_ _)) (vb_one _) (by omega) rfl _ _ rfl rfl rfl ?_; rintro A3 c3 y3 hown3)
  go_ret
  exact ⟨_, _, rfl, own_ret (by (try simp only [ext_ext]); repeat (first | exact Bel.refl _ | assumption | refine bel_and ?_ _ | refine bel_drews ?_ _ | refine Bel.ext ?_ _ | refine Bel.alloc ?_ _ | refine Bel.drewN ?_ _)) hown3 (by (try simp only [ext_ext]); repeat (first | exact Bel.refl _ | assumption | refine bel_and ?_ _ | refine bel_drews ?_ _ | refine Bel.ext ?_ _ | refine Bel.alloc ?_ _ | refine Bel.drewN ?_ _)) (by simp)⟩

set_option maxHeartbeats 1000000 in
theorem bytes_move (i a b j n d : Int) (w : World) (h1 : -1073741824 ≤ n) (h2 : n ≤ 1073741824) (h3 : 0 ≤ d) (h4 : d ≤ 65535) :
    Calls Try.prog 31 #[.agg #[.int .u8 4, .int .i64 i, .int .i64 a, .int .i64 b, .int .i64 j, .int .i64 n, .int .i64 d]] w fun e w' => ∃ A c, e = .returned (.slice A 7 c) ∧ ∃ x, w' = ext w x ∧ Own (ext w x) w.heap.size 5 1 A (7) c (vb (4 :: (dig 4 (n + 1073741824).toNat ++ dig 2 d.toNat))) := by
  go_enter Try.func31, Try.ntmps31
  go_wp2_with fail
  refine calls_lit0 1 1 (w.heap.size + 1) (by simp) (by decide) rfl ?_
  intro y hown
  refine (digits_lit _ _ 4 rfl _ (by omega) (by omega) (by omega) (by omega)).mono ?_
  rintro e _ ⟨g, c, x, rfl, rfl, hown2⟩
  go_wp2_with (at_builtin; (try refine wpList_unguard rfl (by first | rfl | simp [yielded]) ?_); refine append_ext slt_bytes (by (try simp only [ext_ext]); repeat (first | exact Bel.refl _ | assumption | refine bel_and ?_ _ | refine bel_drews ?_ _ | refine Bel.ext ?_ _ | refine Bel.alloc ?_ _ | refine Bel.drewN ?_ _)) hown (by (try simp only [ext_ext]); repeat (first | exact Bel.refl _ | assumption | refine bel_and ?_ _ | refine bel_drews ?_ _ | refine Bel.ext ?_ _ | refine Bel.alloc ?_ _ | refine Bel.drewN ?_ _)) hown2.sl (by (try simp only [ext_ext]); repeat (first | exact Bel.refl _ | assumption | refine bel_and ?_ _ | refine bel_drews ?_ _ | refine Bel.ext ?_ _ | refine Bel.alloc ?_ _ | refine Bel.drewN ?_ _)) (vb_one _) (by omega) rfl _ _ rfl rfl rfl ?_; rintro A3 c3 y3 hown3)
  refine (digits_lit _ _ 2 rfl _ (by omega) (by omega) (by omega) (by omega)).mono ?_
  rintro e _ ⟨g4, c4, x4, rfl, rfl, hown4⟩
  go_wp2_with (at_builtin; (try refine wpList_unguard rfl (by first | rfl | simp [yielded]) ?_); refine append_ext slt_bytes (by (try simp only [ext_ext]); repeat (first | exact Bel.refl _ | assumption | refine bel_and ?_ _ | refine bel_drews ?_ _ | refine Bel.ext ?_ _ | refine Bel.alloc ?_ _ | refine Bel.drewN ?_ _)) hown3 (by (try simp only [ext_ext]); repeat (first | exact Bel.refl _ | assumption | refine bel_and ?_ _ | refine bel_drews ?_ _ | refine Bel.ext ?_ _ | refine Bel.alloc ?_ _ | refine Bel.drewN ?_ _)) hown4.sl (by (try simp only [ext_ext]); repeat (first | exact Bel.refl _ | assumption | refine bel_and ?_ _ | refine bel_drews ?_ _ | refine Bel.ext ?_ _ | refine Bel.alloc ?_ _ | refine Bel.drewN ?_ _)) (vb_one _) (by omega) rfl _ _ rfl rfl rfl ?_; rintro A5 c5 y5 hown5)
  go_ret
  exact ⟨_, _, rfl, own_ret (by (try simp only [ext_ext]); repeat (first | exact Bel.refl _ | assumption | refine bel_and ?_ _ | refine bel_drews ?_ _ | refine Bel.ext ?_ _ | refine Bel.alloc ?_ _ | refine Bel.drewN ?_ _)) (by simpa [vb_append, vb] using hown5) (by (try simp only [ext_ext]); repeat (first | exact Bel.refl _ | assumption | refine bel_and ?_ _ | refine bel_drews ?_ _ | refine Bel.ext ?_ _ | refine Bel.alloc ?_ _ | refine Bel.drewN ?_ _)) (by simp)⟩

set_option maxHeartbeats 2000000 in
theorem bytes_put (k i a b j n d : Int) (w : World) (hk : k = 1 ∨ k = 3) (h1 : 0 ≤ i) (h2 : i ≤ 65535) (h3 : -1048576 ≤ a) (h4 : a ≤ 1048576) (h5 : -1048576 ≤ b) (h6 : b ≤ 1048576) :
    Calls Try.prog 31 #[.agg #[.int .u8 k, .int .i64 i, .int .i64 a, .int .i64 b, .int .i64 j, .int .i64 n, .int .i64 d]] w fun e w' => ∃ A c, e = .returned (.slice A 9 c) ∧ ∃ x, w' = ext w x ∧ Own (ext w x) w.heap.size 5 1 A (9) c (vb (UInt8.ofNat k.toNat :: (dig 2 i.toNat ++ dig 3 (a + 1048576).toNat ++ dig 3 (b + 1048576).toNat))) := by
  rcases hk with rfl | rfl
  all_goals (
    go_enter Try.func31, Try.ntmps31
    go_wp2_with fail
    refine calls_lit0 1 1 (w.heap.size + 1) (by simp) (by decide) rfl ?_
    intro y hown
    refine (digits_lit _ _ 2 rfl _ (by omega) (by omega) (by omega) (by omega)).mono ?_
    rintro e _ ⟨g, c, x, rfl, rfl, hown2⟩
    go_wp2_with (at_builtin; (try refine wpList_unguard rfl (by first | rfl | simp [yielded]) ?_); refine append_ext slt_bytes (by (try simp only [ext_ext]); repeat (first | exact Bel.refl _ | assumption | refine bel_and ?_ _ | refine bel_drews ?_ _ | refine Bel.ext ?_ _ | refine Bel.alloc ?_ _ | refine Bel.drewN ?_ _)) hown (by (try simp only [ext_ext]); repeat (first | exact Bel.refl _ | assumption | refine bel_and ?_ _ | refine bel_drews ?_ _ | refine Bel.ext ?_ _ | refine Bel.alloc ?_ _ | refine Bel.drewN ?_ _)) hown2.sl (by (try simp only [ext_ext]); repeat (first | exact Bel.refl _ | assumption | refine bel_and ?_ _ | refine bel_drews ?_ _ | refine Bel.ext ?_ _ | refine Bel.alloc ?_ _ | refine Bel.drewN ?_ _)) (vb_one _) (by omega) rfl _ _ rfl rfl rfl ?_; rintro A3 c3 y3 hown3)
    refine (digits_lit _ _ 3 rfl _ (by omega) (by omega) (by omega) (by omega)).mono ?_
    rintro e _ ⟨g4, c4, x4, rfl, rfl, hown4⟩
    go_wp2_with (at_builtin; (try refine wpList_unguard rfl (by first | rfl | simp [yielded]) ?_); refine append_ext slt_bytes (by (try simp only [ext_ext]); repeat (first | exact Bel.refl _ | assumption | refine bel_and ?_ _ | refine bel_drews ?_ _ | refine Bel.ext ?_ _ | refine Bel.alloc ?_ _ | refine Bel.drewN ?_ _)) hown3 (by (try simp only [ext_ext]); repeat (first | exact Bel.refl _ | assumption | refine bel_and ?_ _ | refine bel_drews ?_ _ | refine Bel.ext ?_ _ | refine Bel.alloc ?_ _ | refine Bel.drewN ?_ _)) hown4.sl (by (try simp only [ext_ext]); repeat (first | exact Bel.refl _ | assumption | refine bel_and ?_ _ | refine bel_drews ?_ _ | refine Bel.ext ?_ _ | refine Bel.alloc ?_ _ | refine Bel.drewN ?_ _)) (vb_one _) (by omega) rfl _ _ rfl rfl rfl ?_; rintro A5 c5 y5 hown5)
    refine (digits_lit _ _ 3 rfl _ (by omega) (by omega) (by omega) (by omega)).mono ?_
    rintro e _ ⟨g6, c6, x6, rfl, rfl, hown6⟩
    go_wp2_with (at_builtin; (try refine wpList_unguard rfl (by first | rfl | simp [yielded]) ?_); refine append_ext slt_bytes (by (try simp only [ext_ext]); repeat (first | exact Bel.refl _ | assumption | refine bel_and ?_ _ | refine bel_drews ?_ _ | refine Bel.ext ?_ _ | refine Bel.alloc ?_ _ | refine Bel.drewN ?_ _)) hown5 (by (try simp only [ext_ext]); repeat (first | exact Bel.refl _ | assumption | refine bel_and ?_ _ | refine bel_drews ?_ _ | refine Bel.ext ?_ _ | refine Bel.alloc ?_ _ | refine Bel.drewN ?_ _)) hown6.sl (by (try simp only [ext_ext]); repeat (first | exact Bel.refl _ | assumption | refine bel_and ?_ _ | refine bel_drews ?_ _ | refine Bel.ext ?_ _ | refine Bel.alloc ?_ _ | refine Bel.drewN ?_ _)) (vb_one _) (by omega) rfl _ _ rfl rfl rfl ?_; rintro A7 c7 y7 hown7)
    go_ret
    exact ⟨_, _, rfl, own_ret (by (try simp only [ext_ext]); repeat (first | exact Bel.refl _ | assumption | refine bel_and ?_ _ | refine bel_drews ?_ _ | refine Bel.ext ?_ _ | refine Bel.alloc ?_ _ | refine Bel.drewN ?_ _)) (by simpa [vb_append, vb] using hown7) (by (try simp only [ext_ext]); repeat (first | exact Bel.refl _ | assumption | refine bel_and ?_ _ | refine bel_drews ?_ _ | refine Bel.ext ?_ _ | refine Bel.alloc ?_ _ | refine Bel.drewN ?_ _)) (by simp)⟩)

set_option maxHeartbeats 1000000 in
theorem bytes_bare (k i a b j n d : Int) (w : World) (hk : k = 5 ∨ k = 6) :
    Calls Try.prog 31 #[.agg #[.int .u8 k, .int .i64 i, .int .i64 a, .int .i64 b, .int .i64 j, .int .i64 n, .int .i64 d]] w fun e w' => ∃ A c, e = .returned (.slice A 1 c) ∧ ∃ x, w' = ext w x ∧ Own (ext w x) w.heap.size 5 1 A (1) c (vb [UInt8.ofNat k.toNat]) := by
  rcases hk with rfl | rfl
  all_goals (
    go_enter Try.func31, Try.ntmps31
    go_wp2
    go_ret
    obtain ⟨y, hy, hown⟩ := own_lit0 (w.alloc (.cells #[.int .u8 _, .int .i64 i, .int .i64 a, .int .i64 b, .int .i64 j, .int .i64 n, .int .i64 d] 27)) #[.int .u8 _] 5 1 1 (w.heap.size + 1) (by simp) (by decide) rfl
    exact ⟨_, _, rfl, by rw [hy]; exact own_ret (by (try simp only [ext_ext]); repeat (first | exact Bel.refl _ | assumption | refine bel_and ?_ _ | refine bel_drews ?_ _ | refine Bel.ext ?_ _ | refine Bel.alloc ?_ _ | refine Bel.drewN ?_ _)) (by simpa [vb] using hown) (by (try simp only [ext_ext]); repeat (first | exact Bel.refl _ | assumption | refine bel_and ?_ _ | refine bel_drews ?_ _ | refine Bel.ext ?_ _ | refine Bel.alloc ?_ _ | refine Bel.drewN ?_ _)) (by simp)⟩)

theorem bytes_any (k i a b j n d : Int) (w : World) (h : askChk k i a b j n d = 0) :
    Calls Try.prog 31 #[.agg #[.int .u8 k, .int .i64 i, .int .i64 a, .int .i64 b, .int .i64 j, .int .i64 n, .int .i64 d]] w fun e w' => ∃ A c, e = .returned (.slice A (askLen k) c) ∧ ∃ x, w' = ext w x ∧ Own (ext w x) w.heap.size 5 1 A (askLen k) c (vb (askBytes k i a b j n d)) := by
  rcases askChk_zero h with ⟨hk, hp, _⟩ | ⟨rfl, hp, _⟩ | ⟨rfl, hp, _⟩ | ⟨hk, _⟩
  · rw [askLen_put hk, askBytes_put hk]; exact bytes_put k i a b j n d w hk (by omega) (by omega) (by omega) (by omega) (by omega) (by omega)
  · rw [askBytes_take]; exact bytes_take i a b j n d w hp.1 hp.2
  · rw [askBytes_move]; exact bytes_move i a b j n d w (by omega) (by omega) (by omega) (by omega)
  · rw [askLen_bare (by omega), askBytes_bare (by omega)]; exact bytes_bare k i a b j n d w hk
end Go.Proofs.Ytijinelgbiombaa
