/- decode.set writes one number of an ask; decode.Encode altogether. -/
import Derived.Test.YtijinelgbiombaaDec9
set_option linter.unusedSimpArgs false
set_option linter.unusedVariables false
namespace Go.Proofs.Ytijinelgbiombaa
open Go.RowKit Go.Pel
set_option maxRecDepth 10000 in
set_option maxHeartbeats 1000000 in
theorem enc_bare (k i a b j n d : Int) (w : World) (hi : -9223372036854775808 ≤ i ∧ i ≤ 9223372036854775807) (ha : -9223372036854775808 ≤ a ∧ a ≤ 9223372036854775807) (hb : -9223372036854775808 ≤ b ∧ b ≤ 9223372036854775807) (hj : -9223372036854775808 ≤ j ∧ j ≤ 9223372036854775807) (hn : -9223372036854775808 ≤ n ∧ n ≤ 9223372036854775807) (hd : -9223372036854775808 ≤ d ∧ d ≤ 9223372036854775807) (e0 : askChk k i a b j n d = 0) (hk : k = 5 ∨ k = 6) :
    Calls Try.prog 10 #[.agg #[.int .u8 k, .int .i64 i, .int .i64 a, .int .i64 b, .int .i64 j, .int .i64 n, .int .i64 d]] w fun e w' => ∃ A c, e = .returned (.tuple #[.slice A 1 c, .int .i64 0]) ∧ ∃ x, w' = ext w x ∧ Own (ext w x) w.heap.size 5 1 A 1 c (vb [UInt8.ofNat k.toNat]) := by
  obtain ⟨hi1, hi2⟩ := hi; obtain ⟨ha1, ha2⟩ := ha; obtain ⟨hb1, hb2⟩ := hb; obtain ⟨hj1, hj2⟩ := hj; obtain ⟨hn1, hn2⟩ := hn; obtain ⟨hd1, hd2⟩ := hd
  rcases hk with rfl | rfl
  · go_enter Try.func10, Try.ntmps10
    go_wp2_with (first | (go_at_call 14; refine (e0 ▸ decCheck_any _ i a b j n d _ (by omega) (by omega)).mono ?_; rintro e _ ⟨rfl, nx, rfl⟩))
    go_region_held3 (fun w' => w'.cell? ⟨w.heap.size, 0, none⟩ = some (.int .u8 5)) (simp [go_sem]) ((go_at_call 29; refine (fields_any _).mono ?_; rintro e _ ⟨g1, g2, g3, rfl, x, rfl, hs1, hs2, hs3⟩))
    go_wp2
    refine wp_loop_rounds 1 ?_
    rw [rounds_succ]
    go_wp2
    go_ret2
    have hout := own_lit (ext (w.alloc (.cells #[.int .u8 5, .int .i64 i, .int .i64 a, .int .i64 b, .int .i64 j, .int .i64 n, .int .i64 d] 27)) nx) x #[.int .u8 5] 5 1 1 (w.heap.size + 1 + nx.len) (by simp [go_sem]) (by decide) rfl
    obtain ⟨y, hy, hown⟩ := hout
    rw [hy]
    exact ⟨_, _, rfl, own_ret (by (try simp only [ext_ext]); repeat (first | exact Bel.refl _ | assumption | refine bel_and ?_ _ | refine bel_drews ?_ _ | refine Bel.ext ?_ _ | refine Bel.alloc ?_ _ | refine Bel.drewN ?_ _)) (by simpa [vb] using hown) (by (try simp only [ext_ext]); repeat (first | exact Bel.refl _ | assumption | refine bel_and ?_ _ | refine bel_drews ?_ _ | refine Bel.ext ?_ _ | refine Bel.alloc ?_ _ | refine Bel.drewN ?_ _)) (by simp [go_sem])⟩
  · go_enter Try.func10, Try.ntmps10
    go_wp2_with (first | (go_at_call 14; refine (e0 ▸ decCheck_any _ i a b j n d _ (by omega) (by omega)).mono ?_; rintro e _ ⟨rfl, nx, rfl⟩))
    go_region_held3 (fun w' => w'.cell? ⟨w.heap.size, 0, none⟩ = some (.int .u8 6)) (simp [go_sem]) ((go_at_call 29; refine (fields_any _).mono ?_; rintro e _ ⟨g1, g2, g3, rfl, x, rfl, hs1, hs2, hs3⟩))
    go_wp2
    refine wp_loop_rounds 1 ?_
    rw [rounds_succ]
    go_wp2
    go_ret2
    have hout := own_lit (ext (w.alloc (.cells #[.int .u8 6, .int .i64 i, .int .i64 a, .int .i64 b, .int .i64 j, .int .i64 n, .int .i64 d] 27)) nx) x #[.int .u8 6] 5 1 1 (w.heap.size + 1 + nx.len) (by simp [go_sem]) (by decide) rfl
    obtain ⟨y, hy, hown⟩ := hout
    rw [hy]
    exact ⟨_, _, rfl, own_ret (by (try simp only [ext_ext]); repeat (first | exact Bel.refl _ | assumption | refine bel_and ?_ _ | refine bel_drews ?_ _ | refine Bel.ext ?_ _ | refine Bel.alloc ?_ _ | refine Bel.drewN ?_ _)) (by simpa [vb] using hown) (by (try simp only [ext_ext]); repeat (first | exact Bel.refl _ | assumption | refine bel_and ?_ _ | refine bel_drews ?_ _ | refine Bel.ext ?_ _ | refine Bel.alloc ?_ _ | refine Bel.drewN ?_ _)) (by simp [go_sem])⟩

set_option maxRecDepth 10000 in
set_option maxHeartbeats 1000000 in
theorem enc_bad (k i a b j n d : Int) (w : World) (hn : -9223372036854775808 ≤ n ∧ n ≤ 9223372036854775807) (hd : -9223372036854775808 ≤ d ∧ d ≤ 9223372036854775807) (e0 : askChk k i a b j n d = 8) :
    Calls Try.prog 10 #[.agg #[.int .u8 k, .int .i64 i, .int .i64 a, .int .i64 b, .int .i64 j, .int .i64 n, .int .i64 d]] w fun e w' => ∃ A c, e = .returned (.tuple #[.slice A 0 c, .int .i64 8]) ∧ ∃ x, w' = ext w x ∧ Own (ext w x) w.heap.size 5 1 A 0 c (vb []) := by
  obtain ⟨hn1, hn2⟩ := hn; obtain ⟨hd1, hd2⟩ := hd
  go_enter Try.func10, Try.ntmps10
  go_wp2_with (first | (go_at_call 14; refine (e0 ▸ decCheck_any k i a b j n d _ (by omega) (by omega)).mono ?_; rintro e _ ⟨rfl, nx, rfl⟩))
  go_ret2
  exact ⟨_, _, rfl, own_ret (by (try simp only [ext_ext]); repeat (first | exact Bel.refl _ | assumption | refine bel_and ?_ _ | refine bel_drews ?_ _ | refine Bel.ext ?_ _ | refine Bel.alloc ?_ _ | refine Bel.drewN ?_ _)) (Own.nil_ w w.heap.size _ _) (by (try simp only [ext_ext]); repeat (first | exact Bel.refl _ | assumption | refine bel_and ?_ _ | refine bel_drews ?_ _ | refine Bel.ext ?_ _ | refine Bel.alloc ?_ _ | refine Bel.drewN ?_ _)) (Nat.le_refl _)⟩

theorem encode_any (k i a b j n d : Int) (w : World) (hi : -9223372036854775808 ≤ i ∧ i ≤ 9223372036854775807) (ha : -9223372036854775808 ≤ a ∧ a ≤ 9223372036854775807) (hb : -9223372036854775808 ≤ b ∧ b ≤ 9223372036854775807) (hj : -9223372036854775808 ≤ j ∧ j ≤ 9223372036854775807) (hn : -9223372036854775808 ≤ n ∧ n ≤ 9223372036854775807) (hd : -9223372036854775808 ≤ d ∧ d ≤ 9223372036854775807) :
    Calls Try.prog 10 #[.agg #[.int .u8 k, .int .i64 i, .int .i64 a, .int .i64 b, .int .i64 j, .int .i64 n, .int .i64 d]] w fun e w' => ∃ A c, e = .returned (.tuple #[.slice A (encBytes k i a b j n d).length c, .int .i64 (askChk k i a b j n d)]) ∧ ∃ x, w' = ext w x ∧ Own (ext w x) w.heap.size 5 1 A (encBytes k i a b j n d).length c (vb (encBytes k i a b j n d)) := by
  rcases askChk_cases k i a b j n d with e0 | e0
  · rw [encBytes_yes e0, askBytes_length, e0]
    rcases askChk_zero e0 with ⟨hk, hp, _⟩ | ⟨rfl, hp, _⟩ | ⟨rfl, hp, _⟩ | ⟨hk, _⟩
    · rcases hk with rfl | rfl
      · rw [askLen_put (by omega), askBytes_put (by omega)]
        exact enc_put1 i a b j n d w hi ha hb hj hn hd e0 (by omega) (by omega) (by omega) (by omega) (by omega) (by omega)
      · rw [askLen_put (by omega), askBytes_put (by omega)]
        exact enc_put3 i a b j n d w hi ha hb hj hn hd e0 (by omega) (by omega) (by omega) (by omega) (by omega) (by omega)
    · rw [askBytes_take]; exact enc_take i a b j n d w hi ha hb hj hn hd e0 hp.1 hp.2
    · rw [askBytes_move]; exact enc_move i a b j n d w hi ha hb hj hn hd e0 (by omega) (by omega) (by omega) (by omega)
    · rw [askLen_bare (by omega), askBytes_bare (by omega)]; exact enc_bare k i a b j n d w hi ha hb hj hn hd e0 hk
  · rw [encBytes_no e0, e0]; exact enc_bad k i a b j n d w hn hd e0
end Go.Proofs.Ytijinelgbiombaa
