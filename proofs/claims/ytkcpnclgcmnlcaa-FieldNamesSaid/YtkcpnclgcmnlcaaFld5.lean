/- slices.Insert and slices.Delete whole; field.Find, Put, Take, Change. -/
import Derived.Test.YtkcpnclgcmnlcaaFld4
set_option linter.unusedSimpArgs false
set_option linter.unusedVariables false
namespace Go.Proofs.Ytkcpnclgcmnlcaa
open Go.RowKit Go.Pel Go.IntWalk
theorem insert_any (A : Option Addr) (c : Nat) (l : List Pt) (i : Nat) (p : Pt) (g cg : Nat) (wB w : World) (hb : Bel wB w) (hown : Own w wB.heap.size 26 3 A l.length c (vp l)) (hv : Sl w 3 (some ⟨g, 0, none⟩) 1 cg p.cells) (hl : l.length ≤ 1000000) (hi : i ≤ l.length) (hga : some (⟨g, 0, none⟩ : Addr) ≠ A) (hvs : w.shape? g = some (26, 3)) (hvf : ∀ j, w.frozen? ⟨g, j, none⟩ = false) :
    Calls Try.prog 69 #[.slice A l.length c, .int .i64 i, .slice (some ⟨g, 0, none⟩) 1 cg] w fun e w' => ∃ A' c', e = .returned (.slice A' (l.length + 1) c') ∧ ∃ y, w' = ext wB y ∧ Own (ext wB y) wB.heap.size 26 3 A' (l.length + 1) c' (vp (l.take i ++ p :: l.drop i)) := by
  rcases Nat.lt_or_ge i l.length with h | h
  · obtain ⟨a, rfl⟩ : ∃ a, A = some ⟨a, 0, none⟩ := by
      rcases hown.row with ⟨_, h0, _⟩ | ⟨a, cur, h0, _⟩
      · omega
      · exact ⟨a, h0⟩
    rcases Nat.lt_or_ge c (l.length + 1) with h1 | h1
    · exact insert_grow a c l i p g cg wB w hb hown hv hl h h1
    · exact insert_room a c l i p g cg wB w hb hown hv hl h h1 (fun h => hga (by rw [h])) hvs hvf
  · obtain rfl : i = l.length := by omega
    rw [List.take_length, List.drop_length]
    exact insert_end A c l p g cg wB w hb hown hv hl
theorem del_cells (cur A M C1 C2 : List Value) (i m n : Nat) (hi : i < n) (hA : (cur.take (n * 3)).take (i * 3) = A) (hc : n * 3 ≤ cur.length) (hM : M.length = m * 3)
    (h1 : C1 = cur.take (i * 3) ++ (M ++ cur.drop (i * 3 + M.length))) (h2 : C2.take ((i + m) * 3) = C1.take ((i + m) * 3)) : C2.take ((i + m) * 3) = A ++ M := by
  rw [List.take_take, Nat.min_eq_left (by omega)] at hA
  have hAl : A.length = i * 3 := by rw [← hA, List.length_take]; omega
  rw [h2, h1, hA, ← List.append_assoc, show (i + m) * 3 = (A ++ M).length by rw [List.length_append, hAl, hM]; omega, List.take_left]
theorem zpt_run (w : World) : (zeroValue 26).run Try.prog w = .ok (.agg #[.int .i64 0, .int .i64 0, .int .i64 0]) w := by kernel_rfl
set_option maxRecDepth 10000 in
set_option maxHeartbeats 2000000 in
theorem delete_any (a c : Nat) (l : List Pt) (i : Nat) (wB w : World) (hb : Bel wB w) (hown : Own w wB.heap.size 26 3 (some ⟨a, 0, none⟩) l.length c (vp l)) (hl : l.length ≤ 1000000) (hi : i < l.length) :
    Calls Try.prog 71 #[.slice (some ⟨a, 0, none⟩) l.length c, .int .i64 i, .int .i64 (i + 1)] w fun e w' => ∃ A' c', e = .returned (.slice A' (l.length - 1) c') ∧ ∃ y, w' = ext wB y ∧ Own (ext wB y) wB.heap.size 26 3 A' (l.length - 1) c' (vp (l.take i ++ l.drop (i + 1))) := by
  have hc := hown.cap
  have h1 : (i : Int) < (l.length : Int) := by omega
  have h2 : ((i : Int) == (i : Int) + 1) = false := by rw [beq_eq_false_iff_ne]; omega
  have h3 : (i : Int) + 1 ≤ (l.length : Int) := by omega
  have h3' : (l.length : Int) ≤ (c : Int) := by omega
  have h8 : ((i : Int) + 1).toNat = i + 1 := by omega
  have h9 : (0 : Int) ≤ (i : Int) + 1 := by omega
  have h10 : (i : Int) ≤ (i : Int) + 1 := by omega
  obtain ⟨cur, hrow, htk⟩ : ∃ cur, Row w wB.heap.size 26 3 a c cur ∧ cur.take (l.length * 3) = vp l := by
    rcases hown.row with ⟨h, _⟩ | ⟨g', cur, h, hr, _, ht⟩
    · cases h
    · obtain rfl : a = g' := by injection h with h; injection h
      exact ⟨cur, hr, ht⟩
  have HT := Lib.hid htk; clear htk
  obtain ⟨m, hm⟩ : ∃ m, l.length = i + 1 + m := ⟨l.length - (i + 1), by omega⟩
  have hmm : l.length - (i + 1) = m := by omega
  have h12 : i + m < c := by omega
  have h13 : (i : Int) + (m : Int) ≤ (l.length : Int) := by omega
  have hsrc : ∃ b so cc, (if i + 1 < c then (⟨a, (i + 1) * 3, none⟩ : Addr) else ⟨a, 0, none⟩) = ⟨b, so, none⟩ ∧ cc = c - (i + 1) ∧ Sl w 3 (some ⟨b, so, none⟩) m cc (vp (l.drop (i + 1))) := by
    by_cases h : i + 1 < c
    · refine ⟨_, _, _, if_pos h, rfl, ?_⟩
      have := fl_sl_drop (i := i + 1) pt_len hown.sl (by omega)
      rw [Nat.zero_add, hmm] at this; exact this
    · refine ⟨_, _, _, if_neg h, rfl, ?_⟩
      obtain rfl : m = 0 := by omega
      rw [List.drop_of_length_le (by omega)]; exact Sl.nil_ _ _ _ _
  have hml : ((l.drop (i + 1)).length) = m := by rw [List.length_drop]; omega
  have HM := Lib.hid hm; have HML := Lib.hid hml; clear hm hml
  rcases Nat.lt_or_ge (i + 1) c with hic | hic
  · have hic2 : ¬ c = i + 1 := by omega
    obtain ⟨b, so, cc, hA, rfl, hS⟩ := hsrc
    rw [if_pos hic] at hA
    injection hA with e1 e2
    subst e1 e2
    go_enter Try.func71, Try.ntmps71
    go_wp2
    ((first | refine RegC.wp_region_tail1 6 (by kernel_rfl) (by kernel_rfl) ?_ | refine RegC.wp_region_tail0 6 (by kernel_rfl) (by kernel_rfl) ?_); simp only [List.take_succ_cons, List.take_zero, List.drop_succ_cons, List.drop_zero]; (repeat (any_goals (first | go_big_quiet_step (fail) | (refine RegC.wpQuiet_split rfl rfl (fun hb => ?_) (fun hb => ?_) <;> simp only [hb])))); all_goals (refine wpQuiet_nil ?_; rintro _ ⟨nq, rfl⟩))
    go_wp2_with (first
      | (refine append_roomC slt_pts (hb.ext nq) (hrow.bel (bel_ext w nq)) (hS.bel (bel_ext w nq)) (vp_one _) (by omega) rfl _ _ rfl rfl rfl ?_; rintro W2 C1 hC1 hr1 hb1 hoth1)
      | (refine clear_rowC (n := l.length - (i + m)) (i := i + m) slt_pts zpt_run (by decide) hb1 hr1 (by omega) rfl _ rfl rfl ?_; rintro W3 C2 hr2 hb2 hC2))
    have hown2 := hr2.own (n := i + m) (by omega)
    rw [del_cells cur (vp (l.take i)) (vp (l.drop (i + 1))) C1 C2 i m l.length hi (by rw [HT.out]; exact fl_take pt_len l i) (by rw [hrow.len]; omega) (by rw [vp_len, HML.out]) hC1.out hC2.out] at hown2
    obtain ⟨y, hy⟩ := ext_of hb2
    have e1 : l.length - 1 = i + m := by omega
    go_ret
    refine ⟨some ⟨a, 0, none⟩, _, by rw [e1]; rfl, y, hy, ?_⟩
    rw [← hy, vp_append, e1]
    exact hown2
  · obtain rfl : c = i + 1 := by omega
    obtain ⟨b, so, cc, hA, rfl, hS⟩ := hsrc
    rw [if_neg (by omega)] at hA
    injection hA with e1 e2
    subst e1 e2
    rw [Nat.sub_self] at hS
    go_enter Try.func71, Try.ntmps71
    go_wp2
    ((first | refine RegC.wp_region_tail1 6 (by kernel_rfl) (by kernel_rfl) ?_ | refine RegC.wp_region_tail0 6 (by kernel_rfl) (by kernel_rfl) ?_); simp only [List.take_succ_cons, List.take_zero, List.drop_succ_cons, List.drop_zero]; (repeat (any_goals (first | go_big_quiet_step (fail) | (refine RegC.wpQuiet_split rfl rfl (fun hb => ?_) (fun hb => ?_) <;> simp only [hb])))); all_goals (refine wpQuiet_nil ?_; rintro _ ⟨nq, rfl⟩))
    go_wp2_with (first
      | (refine append_roomC slt_pts (hb.ext nq) (hrow.bel (bel_ext w nq)) (hS.bel (bel_ext w nq)) (vp_one _) (by omega) rfl _ _ rfl rfl rfl ?_; rintro W2 C1 hC1 hr1 hb1 hoth1)
      | (refine clear_rowC (n := l.length - (i + m)) (i := i + m) slt_pts zpt_run (by decide) hb1 hr1 (by omega) rfl _ rfl rfl ?_; rintro W3 C2 hr2 hb2 hC2))
    have hown2 := hr2.own (n := i + m) (by omega)
    rw [del_cells cur (vp (l.take i)) (vp (l.drop (i + 1))) C1 C2 i m l.length hi (by rw [HT.out]; exact fl_take pt_len l i) (by rw [hrow.len]; omega) (by rw [vp_len, HML.out]) hC1.out hC2.out] at hown2
    obtain ⟨y, hy⟩ := ext_of hb2
    have e1 : l.length - 1 = i + m := by omega
    go_ret
    refine ⟨some ⟨a, 0, none⟩, _, by rw [e1]; rfl, y, hy, ?_⟩
    rw [← hy, vp_append, e1]
    exact hown2
end Go.Proofs.Ytkcpnclgcmnlcaa
