/- ref03: Leader, Order, Rank: as the program's. -/
import Derived.Test.YtkcpnclgcmnlcaaSpec5
set_option linter.unusedSimpArgs false
set_option linter.unusedVariables false
namespace Go.Proofs.Ytkcpnclgcmnlcaa
open Go.RowKit Go.Pel
theorem cmpIn_all {l : List Pt} {n d : Int} (h : fieldChk l = 0) (hr : ratioChk n d = 0) (hn : -9223372036854775808 ≤ n ∧ n ≤ 9223372036854775807) (hd : -9223372036854775808 ≤ d ∧ d ≤ 9223372036854775807) : ∀ p ∈ l, ∀ q ∈ l, CmpIn q p n d := by
  obtain ⟨_, hc, _⟩ := fieldChk_zero h
  exact fun p hp q hq => cmpIn_of (hc q hq) (hc p hp) hr hn hd
set_option maxRecDepth 10000 in
set_option maxHeartbeats 2000000 in
theorem refOrder_any (A : Option Addr) (c : Nat) (l : List Pt) (n d : Int) (w : World) (hn : -9223372036854775808 ≤ n ∧ n ≤ 9223372036854775807) (hd : -9223372036854775808 ≤ d ∧ d ≤ 9223372036854775807) (hs : Sl w 3 A l.length c (vp l)) (hl : l.length ≤ 1000000) :
    Calls Try.prog 53 #[.agg #[.slice A l.length c], .agg #[.int .i64 n, .int .i64 d]] w fun e w' => ∃ A' c', e = .returned (.tuple #[.slice A' (fieldOrder l n d).1.length c', .int .i64 (fieldOrder l n d).2]) ∧ ∃ x, w' = ext w x ∧ Own (ext w x) w.heap.size 3 1 A' (fieldOrder l n d).1.length c' (vi (fieldOrder l n d).1) := by
  have q := Lib.hid (fun W hb => timed_any A c l n d W hn hd (hs.bel (w' := W) hb) hl)
  unfold fieldOrder
  rw [timed_sorted]
  by_cases h : timed l n d = 0
  · obtain ⟨h1, h2, h3⟩ := timed_zero h
    have q2 := Lib.hid (fun W hb => ordered_any A c l n d W (hs.bel (w' := W) hb) hl (cmpIn_all h1 h2 hn hd))
    rw [h, h3, if_neg (by decide)]
    rw [h] at q
    simp only [List.length_map, sortP_length]
    rw [ordK_sorted (fieldChk_zero h1).2.2] at q2
    clear h h1 h2 h3 hn hd
    go_enter Try.func53, Try.ntmps53
    go_wp2_with (first | (go_at_call 45; refine (q.out _ (by (try simp only [ext_ext]); repeat (first | exact Bel.refl _ | assumption | refine bel_and ?_ _ | refine bel_drews ?_ _ | refine Bel.ext ?_ _ | refine Bel.alloc ?_ _ | refine Bel.drewN ?_ _))).mono ?_; rintro e _ ⟨rfl, nx, rfl⟩) | (go_at_call 91; refine (q2.out _ (by (try simp only [ext_ext]); repeat (first | exact Bel.refl _ | assumption | refine bel_and ?_ _ | refine bel_drews ?_ _ | refine Bel.ext ?_ _ | refine Bel.alloc ?_ _ | refine Bel.drewN ?_ _))).mono ?_; rintro e _ ⟨A2, c2, rfl, x2, rfl, own2⟩; simp only [ext_ext] at own2))
    go_ret2
    exact ⟨A2, c2, rfl, own_exists (by (try simp only [ext_ext]); repeat (first | exact Bel.refl _ | assumption | refine bel_and ?_ _ | refine bel_drews ?_ _ | refine Bel.ext ?_ _ | refine Bel.alloc ?_ _ | refine Bel.drewN ?_ _)) (own2.base_le (by simp [go_sem]; try omega)) (Bel.refl _)⟩
  · rw [if_pos h]
    obtain ⟨v, hv⟩ : ∃ v, timed l n d = v := ⟨_, rfl⟩
    rw [hv] at q h ⊢
    have h' : (v != 0) = true := by simpa using h
    clear h hn hd hv
    go_enter Try.func53, Try.ntmps53
    go_wp2_with ((go_at_call 45; refine (q.out _ (by (try simp only [ext_ext]); repeat (first | exact Bel.refl _ | assumption | refine bel_and ?_ _ | refine bel_drews ?_ _ | refine Bel.ext ?_ _ | refine Bel.alloc ?_ _ | refine Bel.drewN ?_ _))).mono ?_; rintro e _ ⟨rfl, nx, rfl⟩))
    go_ret2
    exact ⟨none, 0, rfl, own_exists (by (try simp only [ext_ext]); repeat (first | exact Bel.refl _ | assumption | refine bel_and ?_ _ | refine bel_drews ?_ _ | refine Bel.ext ?_ _ | refine Bel.alloc ?_ _ | refine Bel.drewN ?_ _)) (Own.nil_ _ _ _ _) (Bel.refl _)⟩
set_option maxRecDepth 10000 in
set_option maxHeartbeats 2000000 in
theorem refLeader_any (A : Option Addr) (c : Nat) (l : List Pt) (n d : Int) (w : World) (hn : -9223372036854775808 ≤ n ∧ n ≤ 9223372036854775807) (hd : -9223372036854775808 ≤ d ∧ d ≤ 9223372036854775807) (hs : Sl w 3 A l.length c (vp l)) (hl : l.length ≤ 1000000) :
    Calls Try.prog 51 #[.agg #[.slice A l.length c], .agg #[.int .i64 n, .int .i64 d]] w fun e w' => e = .returned (.tuple #[.int .i64 (fieldLeader l n d).1, .int .i64 (fieldLeader l n d).2]) ∧ ∃ x, w' = ext w x := by
  have q := Lib.hid (fun W hb => timed_any A c l n d W hn hd (hs.bel (w' := W) hb) hl)
  unfold fieldLeader
  rw [timed_sorted]
  by_cases h : timed l n d = 0
  · obtain ⟨h1, h2, h3⟩ := timed_zero h
    have q2 := Lib.hid (fun W hb => ordered_any A c l n d W (hs.bel (w' := W) hb) hl (cmpIn_all h1 h2 hn hd))
    rw [h, h3, if_neg (by decide)]
    rw [h] at q
    rw [ordK_sorted (fieldChk_zero h1).2.2] at q2
    have HL := sortP_length n d l
    simp only
    generalize sortP n d l = s at q2 HL ⊢
    clear h h1 h2 h3 hn hd
    cases s with
    | nil =>
      have hz : (l.length : Int) = 0 := by simp at HL; omega
      have hz' : ((l.length : Int) == 0) = true := by simp [hz]
      clear HL
      go_enter Try.func51, Try.ntmps51
      go_wp2_with (first | (go_at_call 45; refine (q.out _ (by (try simp only [ext_ext]); repeat (first | exact Bel.refl _ | assumption | refine bel_and ?_ _ | refine bel_drews ?_ _ | refine Bel.ext ?_ _ | refine Bel.alloc ?_ _ | refine Bel.drewN ?_ _))).mono ?_; rintro e _ ⟨rfl, nx, rfl⟩))
      go_ret2
      exact ⟨rfl, ext_of (by (try simp only [ext_ext]); repeat (first | exact Bel.refl _ | assumption | refine bel_and ?_ _ | refine bel_drews ?_ _ | refine Bel.ext ?_ _ | refine Bel.alloc ?_ _ | refine Bel.drewN ?_ _))⟩
    | cons p r =>
      have hlt : (0 : Int) < (l.length : Int) := by simp at HL; omega
      have hz' : ((l.length : Int) == 0) = false := by rw [beq_eq_false_iff_ne]; omega
      clear HL
      go_enter Try.func51, Try.ntmps51
      go_wp2_with (first | (go_at_call 45; refine (q.out _ (by (try simp only [ext_ext]); repeat (first | exact Bel.refl _ | assumption | refine bel_and ?_ _ | refine bel_drews ?_ _ | refine Bel.ext ?_ _ | refine Bel.alloc ?_ _ | refine Bel.drewN ?_ _))).mono ?_; rintro e _ ⟨rfl, nx, rfl⟩) | (go_at_call 91; refine (q2.out _ (by (try simp only [ext_ext]); repeat (first | exact Bel.refl _ | assumption | refine bel_and ?_ _ | refine bel_drews ?_ _ | refine Bel.ext ?_ _ | refine Bel.alloc ?_ _ | refine Bel.drewN ?_ _))).mono ?_; rintro e _ ⟨A2, c2, rfl, x2, rfl, own2⟩; simp only [ext_ext] at own2; have s2 := own2.sl; obtain ⟨b, o, rfl, hb2⟩ := s2.at_ (by omega); have r0 : World.cell? _ ⟨b, o, none⟩ = some (.int .i64 p.id) := (by have := sl_int s2 (k := 0) (x := p.id) rfl; rwa [Nat.add_zero] at this); clear own2 s2))
      go_ret2
      exact ⟨rfl, ext_of (by (try simp only [ext_ext]); repeat (first | exact Bel.refl _ | assumption | refine bel_and ?_ _ | refine bel_drews ?_ _ | refine Bel.ext ?_ _ | refine Bel.alloc ?_ _ | refine Bel.drewN ?_ _))⟩
  · rw [if_pos h]
    obtain ⟨v, hv⟩ : ∃ v, timed l n d = v := ⟨_, rfl⟩
    rw [hv] at q h ⊢
    have h' : (v != 0) = true := by simpa using h
    clear h hn hd hv
    go_enter Try.func51, Try.ntmps51
    go_wp2_with ((go_at_call 45; refine (q.out _ (by (try simp only [ext_ext]); repeat (first | exact Bel.refl _ | assumption | refine bel_and ?_ _ | refine bel_drews ?_ _ | refine Bel.ext ?_ _ | refine Bel.alloc ?_ _ | refine Bel.drewN ?_ _))).mono ?_; rintro e _ ⟨rfl, nx, rfl⟩))
    go_ret2
    exact ⟨rfl, ext_of (by (try simp only [ext_ext]); repeat (first | exact Bel.refl _ | assumption | refine bel_and ?_ _ | refine bel_drews ?_ _ | refine Bel.ext ?_ _ | refine Bel.alloc ?_ _ | refine Bel.drewN ?_ _))⟩
end Go.Proofs.Ytkcpnclgcmnlcaa
