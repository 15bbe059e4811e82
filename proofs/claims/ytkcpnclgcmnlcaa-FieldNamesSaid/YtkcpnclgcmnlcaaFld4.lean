/- slices.Clone, slices.Insert, slices.Delete at points. -/
import Derived.Test.YtkcpnclgcmnlcaaFld3
import Derived.Test.YtkcpnclgcmnlcaaRow
import Derived.IntWalk
set_option linter.unusedSimpArgs false
set_option linter.unusedVariables false
namespace Go.Proofs.Ytkcpnclgcmnlcaa
open Go.RowKit Go.Pel Go.IntWalk
set_option maxRecDepth 10000 in
set_option maxHeartbeats 1000000 in
theorem clone_any (A : Option Addr) (c : Nat) (l : List Pt) (w : World) (hs : Sl w 3 A l.length c (vp l)) (hn : A = none → c = 0) (hl : l.length ≤ 1000000) :
    Calls Try.prog 70 #[.slice A l.length c] w fun e w' => ∃ A' c', e = .returned (.slice A' l.length c') ∧ ∃ x, w' = ext w x ∧ Own (ext w x) w.heap.size 26 3 A' l.length c' (vp l) := by
  have hnil := fun W n c n' c' => Lib.run_eql_slice_nil (P := Try.prog) W 22 26 A n c n' c' Try.underlying22
  cases A with
  | none =>
    obtain rfl := hn rfl
    obtain rfl : l = [] := by
      cases l with
      | nil => rfl
      | cons p l => obtain ⟨b, o, h, _⟩ := hs.at_ (by simp); cases h
    go_enter Try.func70, Try.ntmps70
    go_wp2
    go_ret
    exact ⟨none, 0, rfl, ext_nil _ _ _ _⟩
  | some a =>
    go_enter Try.func70, Try.ntmps70
    go_wp2_with ((at_builtin; (try refine wpList_unguard rfl (by first | rfl | simp [yielded]) ?_); refine append_new slt_pts (by (try simp only [ext_ext]); repeat (first | exact Bel.refl _ | assumption | refine bel_and ?_ _ | refine bel_drews ?_ _ | refine Bel.ext ?_ _ | refine Bel.alloc ?_ _ | refine Bel.drewN ?_ _)) (hs) (by (try simp only [ext_ext]); repeat (first | exact Bel.refl _ | assumption | refine bel_and ?_ _ | refine bel_drews ?_ _ | refine Bel.ext ?_ _ | refine Bel.alloc ?_ _ | refine Bel.drewN ?_ _)) (vp_one _) (hn) (by omega) rfl _ _ rfl rfl rfl (by simp [go_sem]) ?_; rintro A1 c1 y1 hown1))
    go_ret
    exact ⟨_, _, rfl, own_ret (by (try simp only [ext_ext]); repeat (first | exact Bel.refl _ | assumption | refine bel_and ?_ _ | refine bel_drews ?_ _ | refine Bel.ext ?_ _ | refine Bel.alloc ?_ _ | refine Bel.drewN ?_ _)) (own_swap (by simp [go_sem]) hown1 (by simp [go_sem])) (Bel.refl _) (by simp [go_sem])⟩
set_option maxRecDepth 10000 in
set_option maxHeartbeats 2000000 in
theorem insert_end (A : Option Addr) (c : Nat) (l : List Pt) (p : Pt) (g cg : Nat) (wB w : World) (hb : Bel wB w) (hown : Own w wB.heap.size 26 3 A l.length c (vp l)) (hv : Sl w 3 (some ⟨g, 0, none⟩) 1 cg p.cells) (hl : l.length ≤ 1000000) :
    Calls Try.prog 69 #[.slice A l.length c, .int .i64 l.length, .slice (some ⟨g, 0, none⟩) 1 cg] w fun e w' => ∃ A' c', e = .returned (.slice A' (l.length + 1) c') ∧ ∃ y, w' = ext wB y ∧ Own (ext wB y) wB.heap.size 26 3 A' (l.length + 1) c' (vp (l ++ [p])) := by
  have hc := hown.cap
  rw [vp_snoc]
  cases A with
  | none =>
    go_enter Try.func69, Try.ntmps69
    go_wp2_with ((at_builtin; (try refine wpList_unguard rfl (by first | rfl | simp [yielded]) ?_); refine append_any slt_pts (by (try simp only [ext_ext]); repeat (first | exact Bel.refl _ | assumption | refine bel_and ?_ _ | refine bel_drews ?_ _ | refine Bel.ext ?_ _ | refine Bel.alloc ?_ _ | refine Bel.drewN ?_ _)) hown (by (try simp only [ext_ext]); repeat (first | exact Bel.refl _ | assumption | refine bel_and ?_ _ | refine bel_drews ?_ _ | refine Bel.ext ?_ _ | refine Bel.alloc ?_ _ | refine Bel.drewN ?_ _)) (hv) (by (try simp only [ext_ext]); repeat (first | exact Bel.refl _ | assumption | refine bel_and ?_ _ | refine bel_drews ?_ _ | refine Bel.ext ?_ _ | refine Bel.alloc ?_ _ | refine Bel.drewN ?_ _)) (pt_one _) ((fun h => by cases h)) (by omega) rfl _ _ rfl rfl rfl ?_; rintro A1 c1 y1 hown1))
    go_ret
    exact ⟨_, _, rfl, _, rfl, hown1⟩
  | some a =>
    obtain ⟨b0, o, h, _⟩ : ∃ b o, some a = some ⟨b, o, none⟩ ∧ True := by
      rcases hown.row with ⟨h, _⟩ | ⟨g, cur, h, _⟩
      · cases h
      · exact ⟨g, 0, h, trivial⟩
    obtain rfl := Option.some.inj h
    by_cases hcn : l.length < c
    · have h1 : (l.length : Int) < (c : Int) := by omega
      go_enter Try.func69, Try.ntmps69
      go_wp2_with ((at_builtin; (try refine wpList_unguard rfl (by first | rfl | simp [yielded]) ?_); refine append_any slt_pts (by (try simp only [ext_ext]); repeat (first | exact Bel.refl _ | assumption | refine bel_and ?_ _ | refine bel_drews ?_ _ | refine Bel.ext ?_ _ | refine Bel.alloc ?_ _ | refine Bel.drewN ?_ _)) hown (by (try simp only [ext_ext]); repeat (first | exact Bel.refl _ | assumption | refine bel_and ?_ _ | refine bel_drews ?_ _ | refine Bel.ext ?_ _ | refine Bel.alloc ?_ _ | refine Bel.drewN ?_ _)) (hv) (by (try simp only [ext_ext]); repeat (first | exact Bel.refl _ | assumption | refine bel_and ?_ _ | refine bel_drews ?_ _ | refine Bel.ext ?_ _ | refine Bel.alloc ?_ _ | refine Bel.drewN ?_ _)) (pt_one _) ((fun h => by cases h)) (by omega) rfl _ _ rfl rfl rfl ?_; rintro A1 c1 y1 hown1))
      go_ret
      exact ⟨_, _, rfl, _, rfl, hown1⟩
    · obtain rfl : c = l.length := by omega
      go_enter Try.func69, Try.ntmps69
      go_wp2_with ((at_builtin; (try refine wpList_unguard rfl (by first | rfl | simp [yielded]) ?_); refine append_any slt_pts (by (try simp only [ext_ext]); repeat (first | exact Bel.refl _ | assumption | refine bel_and ?_ _ | refine bel_drews ?_ _ | refine Bel.ext ?_ _ | refine Bel.alloc ?_ _ | refine Bel.drewN ?_ _)) hown (by (try simp only [ext_ext]); repeat (first | exact Bel.refl _ | assumption | refine bel_and ?_ _ | refine bel_drews ?_ _ | refine Bel.ext ?_ _ | refine Bel.alloc ?_ _ | refine Bel.drewN ?_ _)) (hv) (by (try simp only [ext_ext]); repeat (first | exact Bel.refl _ | assumption | refine bel_and ?_ _ | refine bel_drews ?_ _ | refine Bel.ext ?_ _ | refine Bel.alloc ?_ _ | refine Bel.drewN ?_ _)) (pt_one _) ((fun h => by cases h)) (by omega) rfl _ _ rfl rfl rfl ?_; rintro A1 c1 y1 hown1))
      go_ret
      exact ⟨_, _, rfl, _, rfl, hown1⟩
theorem ins_cells (cur A p M : List Value) (i n : Nat) (hA : cur.take (i * 3) = A) (hc : i * 3 ≤ cur.length) (hp : p.length = 3) (hM : M.length = (n - i) * 3) (hi : i ≤ n) :
    ((cur.take (i * 3) ++ p ++ cur.drop (i * 3 + p.length)).take ((i + 1) * 3) ++ (M ++ (cur.take (i * 3) ++ p ++ cur.drop (i * 3 + p.length)).drop ((i + 1) * 3 + M.length))).take ((n + 1) * 3) = A ++ (p ++ M) := by
  have hAl : A.length = i * 3 := by rw [← hA, List.length_take]; omega
  have e1 : (i + 1) * 3 = (A ++ p).length := by rw [List.length_append, hAl, hp]; omega
  rw [hA, e1, List.take_left]
  have e2 : (n + 1) * 3 = (A ++ p ++ M).length := by rw [List.length_append, ← e1, hM]; omega
  rw [e2, ← List.append_assoc, List.take_left, List.append_assoc]
set_option maxRecDepth 10000 in
set_option maxHeartbeats 2000000 in
theorem insert_grow (a c : Nat) (l : List Pt) (i : Nat) (p : Pt) (g cg : Nat) (wB w : World) (hb : Bel wB w) (hown : Own w wB.heap.size 26 3 (some ⟨a, 0, none⟩) l.length c (vp l)) (hv : Sl w 3 (some ⟨g, 0, none⟩) 1 cg p.cells) (hl : l.length ≤ 1000000) (hi : i < l.length) (hcn : c < l.length + 1) :
    Calls Try.prog 69 #[.slice (some ⟨a, 0, none⟩) l.length c, .int .i64 i, .slice (some ⟨g, 0, none⟩) 1 cg] w fun e w' => ∃ A' c', e = .returned (.slice A' (l.length + 1) c') ∧ ∃ y, w' = ext wB y ∧ Own (ext wB y) wB.heap.size 26 3 A' (l.length + 1) c' (vp (l.take i ++ p :: l.drop i)) := by
  have hc := hown.cap
  obtain rfl : c = l.length := by omega
  obtain ⟨k, hk⟩ : ∃ k, l.length + 1 = i + k := ⟨l.length + 1 - i, by omega⟩
  have h1 : (i : Int) < (l.length : Int) := by omega
  have h2 : ((i : Int) == (l.length : Int)) = false := by rw [beq_eq_false_iff_ne]; omega
  have h3 : (l.length : Int) + 1 - (i : Int) = (k : Int) := by omega
  have HK := Lib.hid hk; clear hk
  have hsl : Sl w 3 (some ⟨a, 0, none⟩) i l.length (vp (l.take i)) := fl_sl_take pt_len hown.sl (by omega)
  go_enter Try.func69, Try.ntmps69
  go_wp2_with (first
    | (at_builtin; refine append_zeros (z := .agg #[.int .i64 0, .int .i64 0, .int .i64 0]) slt_pts (by kernel_rfl) hb hsl (by have := HK.out; omega) (by have := HK.out; omega) (by have := HK.out; omega) (by omega) rfl _ _ rfl rfl rfl ?_; rintro G W1 cur hbB hbw hrow hGn htk; have h4 : (i : Int) ≤ ((i + k : Nat) : Int) := by omega)
    | (refine copy_row slt_pts hrow (i * 3) _ _ (b := g) (so := 0) (sLen := 1) (sCap := cg) p.cells (by have := HK.out; rw [pt_len, show Nat.min 1 k = 1 from Nat.min_eq_left (by omega)]) (fun j v hj => by have := (hv.bel hbw).cell hj; exact this) (by have := HK.out; rw [pt_len, hrow.len]; omega) (pt_one p) rfl _ _ rfl rfl rfl ?_))
  have hk2 : 2 ≤ k := by have := HK.out; omega
  have hlc := hrow.len
  have hr1 := hrow.set (cur' := cur.take (i * 3) ++ p.cells ++ cur.drop (i * 3 + p.cells.length)) (by
    have := HK.out
    simp only [List.length_append, List.length_take, List.length_drop, pt_len, hlc]; omega)
  have hb1 := hrow.bel_set hbw (Nat.le_refl _) (cur.take (i * 3) ++ p.cells ++ cur.drop (i * 3 + p.cells.length)).toArray
  have h5 : (i : Int) + 1 ≤ ((i + k : Nat) : Int) := by omega
  have h6 : (i : Int) + 1 ≤ (G : Int) := by omega
  have hsd : Sl w 3 (some ⟨a, 0 + i * 3, none⟩) (l.length - i) (l.length - i) (vp (l.drop i)) := fl_sl_drop pt_len hown.sl (by omega)
  have hins := Lib.hid (ins_cells cur (vp (l.take i)) p.cells (vp (l.drop i)) i l.length htk (by have := HK.out; omega) (pt_len p) (by rw [vp_len, List.length_drop]) (by omega))
  generalize hC1 : cur.take (i * 3) ++ p.cells ++ cur.drop (i * 3 + p.cells.length) = C1 at hr1 hb1 hins ⊢
  generalize hW2 : W1.setRow w.heap.size C1.toArray = W2 at hr1 hb1 ⊢
  have hbB2 : Bel wB W2 := hb.trans hb1
  clear hC1 hW2 hrow htk hbw hbB
  have h7 : IntKind.i64.wrap ((i : Int) + 1) = (i : Int) + 1 := i64_in _ (by omega)
  have h8 : ((i : Int) + 1).toNat = i + 1 := by omega
  have h9 : (0 : Int) ≤ (i : Int) + 1 := by omega
  go_frame
  ((first | refine RegC.wp_region_tail1 8 (by kernel_rfl) (by kernel_rfl) ?_ | refine RegC.wp_region_tail0 8 (by kernel_rfl) (by kernel_rfl) ?_); simp only [List.take_succ_cons, List.take_zero, List.drop_succ_cons, List.drop_zero]; (repeat (any_goals (first | go_big_quiet_step (fail) | (refine RegC.wpQuiet_split rfl rfl (fun hb => ?_) (fun hb => ?_) <;> simp only [hb])))); all_goals (refine wpQuiet_nil ?_; rintro _ ⟨nq, rfl⟩))
  clear h7
  go_wp2_with (refine copy_row slt_pts (hr1.bel (bel_ext W2 nq)) ((i + 1) * 3) _ _ (b := a) (so := i * 3) (sLen := l.length - i) (sCap := l.length - i) (vp (l.drop i)) (by have := HK.out; rw [vp_len, List.length_drop, show Nat.min (l.length - i) (i + k - (i + 1)) = l.length - i from Nat.min_eq_left (by omega)]) (fun j v hj => by have := ((hsd.bel hb1).bel (bel_ext W2 nq)).cell hj; rw [Nat.zero_add] at this; exact this) (by have := HK.out; rw [vp_len, List.length_drop, hr1.len]; omega) (vp_one _) rfl _ _ rfl rfl rfl ?_)
  have hrF := hr1.bel (bel_ext W2 nq)
  obtain ⟨C2, hC2⟩ : ∃ C2, C1.take ((i + 1) * 3) ++ (vp (l.drop i) ++ C1.drop ((i + 1) * 3 + (vp (l.drop i)).length)) = C2 := ⟨_, rfl⟩
  rw [hC2]
  rw [hC2] at hins
  have hC2l : C2.length = C1.length := by
    have := HK.out
    rw [← hC2]
    simp only [List.length_append, List.length_take, List.length_drop, vp_len, hr1.len]; omega
  have hbF := hrF.bel_set (hbB2.ext nq) hb.le C2.toArray
  have hown2 := (hrF.set hC2l).own (n := l.length + 1) (by have := HK.out; omega)
  rw [hins.out] at hown2
  go_ret
  obtain ⟨y, hy⟩ := ext_of hbF
  refine ⟨some ⟨w.heap.size, 0, none⟩, G, by rw [HK.out]; rfl, y, hy, ?_⟩
  rw [← hy, vp_append]
  exact hown2
theorem ins_cells2 (cur A p M : List Value) (i n : Nat) (hi : i ≤ n) (hA : (cur.take (n * 3)).take (i * 3) = A) (hc : (n + 1) * 3 ≤ cur.length) (hp : p.length = 3) (hM : M.length = (n - i) * 3) :
    ((cur.take ((i + 1) * 3) ++ (M ++ cur.drop ((i + 1) * 3 + M.length))).take (i * 3) ++ (p ++ (cur.take ((i + 1) * 3) ++ (M ++ cur.drop ((i + 1) * 3 + M.length))).drop (i * 3 + p.length))).take ((n + 1) * 3) = A ++ (p ++ M) := by
  rw [List.take_take, Nat.min_eq_left (by omega)] at hA
  have hAl : A.length = i * 3 := by rw [← hA, List.length_take]; omega
  have hB : (cur.take ((i + 1) * 3)).length = (i + 1) * 3 := by rw [List.length_take]; omega
  have e0 : (cur.take ((i + 1) * 3) ++ (M ++ cur.drop ((i + 1) * 3 + M.length))).take (i * 3) = A := by
    rw [List.take_append_of_le_length (by omega), List.take_take, Nat.min_eq_left (by omega), hA]
  have e1 : (cur.take ((i + 1) * 3) ++ (M ++ cur.drop ((i + 1) * 3 + M.length))).drop (i * 3 + p.length) = M ++ cur.drop ((i + 1) * 3 + M.length) := by
    rw [show i * 3 + p.length = (cur.take ((i + 1) * 3)).length by omega, List.drop_left]
  rw [e0, e1]
  have e2 : (n + 1) * 3 = (A ++ (p ++ M)).length := by simp only [List.length_append, hAl, hp, hM]; omega
  rw [e2, show A ++ (p ++ (M ++ cur.drop ((i + 1) * 3 + M.length))) = (A ++ (p ++ M)) ++ cur.drop ((i + 1) * 3 + M.length) by simp only [List.append_assoc], List.take_left]
set_option maxRecDepth 10000 in
set_option maxHeartbeats 2000000 in
theorem insert_room (a c : Nat) (l : List Pt) (i : Nat) (p : Pt) (g cg : Nat) (wB w : World) (hb : Bel wB w) (hown : Own w wB.heap.size 26 3 (some ⟨a, 0, none⟩) l.length c (vp l)) (hv : Sl w 3 (some ⟨g, 0, none⟩) 1 cg p.cells) (hl : l.length ≤ 1000000) (hi : i < l.length) (hcn : l.length + 1 ≤ c) (hga : g ≠ a) (hvs : w.shape? g = some (26, 3)) (hvf : ∀ j, w.frozen? ⟨g, j, none⟩ = false) :
    Calls Try.prog 69 #[.slice (some ⟨a, 0, none⟩) l.length c, .int .i64 i, .slice (some ⟨g, 0, none⟩) 1 cg] w fun e w' => ∃ A' c', e = .returned (.slice A' (l.length + 1) c') ∧ ∃ y, w' = ext wB y ∧ Own (ext wB y) wB.heap.size 26 3 A' (l.length + 1) c' (vp (l.take i ++ p :: l.drop i)) := by
  have h1 : (i : Int) < (l.length : Int) := by omega
  have h2 : ((i : Int) == (l.length : Int)) = false := by rw [beq_eq_false_iff_ne]; omega
  have h3 : ¬ (c : Int) < (l.length : Int) + 1 := by omega
  have h4 : (l.length : Int) + 1 ≤ (c : Int) := by omega
  go_enter Try.func69, Try.ntmps69
  have hra := hown.row
  obtain ⟨cur, hrow, htk⟩ : ∃ cur, Row w wB.heap.size 26 3 a c cur ∧ cur.take (l.length * 3) = vp l := by
    rcases hown.row with ⟨h, _⟩ | ⟨g', cur, h, hr, _, ht⟩
    · cases h
    · obtain rfl : a = g' := by injection h with h; injection h
      exact ⟨cur, hr, ht⟩
  have hov : (callFunc 100 #[.slice (some ⟨g, 0, none⟩) 1 cg, .slice (some ⟨a, (i + 1) * 3, none⟩) (l.length - i) (c - (i + 1))]).run Try.prog w = .ok (.value (.bool false)) w := by
    rw [run_callFunc_extern Try.func100 (by kernel_rfl) (by kernel_rfl) (by kernel_rfl) (e := Extern.SlicesOverlaps.overlaps #[22, 22] #[4]) (by kernel_rfl),
      Lib.run_overlaps_apart w 22 4 26 Try.underlying22 3 (fun _ => by kernel_rfl) ⟨g, 0, none⟩ ⟨a, (i + 1) * 3, none⟩ 1 cg _ _ hga 26 26 3 (c * 3) hvs (by simp [World.shape?, hrow.2.1, hrow.len]) (by omega) (hvf 0) (hvf 3)]
    rfl
  have hp0 : p.cells.length = 3 := rfl
  have hsd : Sl w 3 (some ⟨a, 0 + i * 3, none⟩) (l.length - i) (c - i) (vp (l.drop i)) := fl_sl_drop pt_len hown.sl (by omega)
  go_wp2
  have h7 : IntKind.i64.wrap ((i : Int) + 1) = (i : Int) + 1 := i64_in _ (by omega)
  have h8 : ((i : Int) + 1).toNat = i + 1 := by omega
  have h9 : (0 : Int) ≤ (i : Int) + 1 := by omega
  (try go_frame)
  ((first | refine RegC.wp_region_tail1 8 (by kernel_rfl) (by kernel_rfl) ?_ | refine RegC.wp_region_tail0 8 (by kernel_rfl) (by kernel_rfl) ?_); simp only [List.take_succ_cons, List.take_zero, List.drop_succ_cons, List.drop_zero]; (repeat (any_goals (first | go_big_quiet_step (fail) | (refine RegC.wpQuiet_split rfl rfl (fun hb => ?_) (fun hb => ?_) <;> simp only [hb])))); all_goals (refine wpQuiet_nil ?_; rintro _ ⟨nq, rfl⟩))
  clear h7
  have hbw := bel_ext w nq
  go_wp2_with (first
    | (refine copy_rowC slt_pts (hb.ext nq) (hrow.bel (bel_ext w nq)) ((i + 1) * 3) _ _ (b := a) (so := i * 3) (sLen := l.length + 1 - i) (sCap := c - i) (vp (l.drop i)) (by rw [vp_len, List.length_drop, show Nat.min (l.length + 1 - i) (l.length - i) = l.length - i from Nat.min_eq_right (by omega)]) (fun j v hj => by have := (hsd.bel (bel_ext w nq)).cell hj; rw [Nat.zero_add] at this; exact this) (by rw [vp_len, List.length_drop, hrow.len]; omega) (vp_one _) rfl _ _ rfl rfl rfl ?_; rintro W2 C1 hC1 hr1 hb1 hoth1)
    | (refine copy_rowC slt_pts hb1 hr1 (i * 3) _ _ (b := g) (so := 0) (sLen := 1) (sCap := cg) p.cells (by rw [pt_len, show Nat.min 1 (l.length + 1 - i) = 1 from Nat.min_eq_left (by omega)]) (fun j v hj => by have := (hoth1 _ _ _ _ _ _ hga (hv.bel (bel_ext w nq))).cell hj; exact this) (by rw [pt_len, hr1.len]; omega) (pt_one p) rfl _ _ rfl rfl rfl ?_; rintro W3 C2 hC2 hr2 hb2 hoth2))
  have hown2 := hr2.own (n := l.length + 1) (by omega)
  rw [hC2.out, hC1.out, ins_cells2 cur (vp (l.take i)) p.cells (vp (l.drop i)) i l.length (by omega) (by rw [htk]; exact fl_take pt_len l i) (by rw [hrow.len]; omega) (pt_len p) (by rw [vp_len, List.length_drop])] at hown2
  obtain ⟨y, hy⟩ := ext_of hb2
  go_ret
  refine ⟨some ⟨a, 0, none⟩, c, rfl, y, hy, ?_⟩
  rw [← hy, vp_append]
  exact hown2
end Go.Proofs.Ytkcpnclgcmnlcaa
