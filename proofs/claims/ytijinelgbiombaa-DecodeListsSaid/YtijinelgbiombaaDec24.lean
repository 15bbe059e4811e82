/- The reference's wild (printed by genwild.py). -/
import Derived.Test.YtijinelgbiombaaDec22
import Derived.Test.YtijinelgbiombaaSpec36c
set_option linter.unusedSimpArgs false
set_option linter.unusedVariables false
namespace Go.Proofs.Ytijinelgbiombaa
open Go.RowKit Go.Pel
set_option maxRecDepth 10000 in
set_option maxHeartbeats 4000000 in
theorem refwild_2i (b o c : Nat) (l : List UInt8) (w : World) (hs : Sl w 1 (some ⟨b, o, none⟩) l.length c (vb l)) (hb : b < w.heap.size) (hl : l.length ≤ 1000000) (h0 : 0 < l.length) (x : UInt8) (hx : l[0]? = some x) (hk : kindV x.toNat = 2) (hv : (x.toNat : Int) = 2) :
    Calls Try.prog 41 #[.slice (some ⟨b, o, none⟩) l.length c] w fun e w' => e = .returned (.tuple #[.agg #[.int .u8 (wildAsk l).k, .int .i64 (wildAsk l).i, .int .i64 (wildAsk l).a, .int .i64 (wildAsk l).b, .int .i64 (wildAsk l).j, .int .i64 (wildAsk l).n, .int .i64 (wildAsk l).d], .int .i64 (wildLen l)]) ∧ ∃ x, w' = ext w x := by
  have hcell := sl_byte hs hx
  rw [Nat.add_zero] at hcell
  have hx256 := UInt8.toNat_lt x
  have v1 := valAt_bound l 1 2 (by omega)
  have v2 := valAt_bound l 3 3 (by omega)
  have v3 := valAt_bound l 6 3 (by omega)
  have v4 := valAt_bound l 1 4 (by omega)
  have v5 := valAt_bound l 5 2 (by omega)
  have hb' := Nat.le_of_lt hb
  have E1 := Lib.hid (show wildAsk l = wildOf 2 l by unfold wildAsk; rw [wildK_of hx, hk])
  have E2 := Lib.hid (show wildLen l = askLen 2 by unfold wildLen; rw [wildK_of hx, hk])
  clear hx
  have K1 := Lib.hid (wildOf_take l)
  have L1 : askLen 2 = 3 := rfl
  rw [hv] at hcell
  clear hv hk
  go_enter Try.func41, Try.ntmps41
  go_wp2_with (go_at_call 52; refine (value_lit _ _ _ _ 1 2 l _ w rfl rfl hs (by (try simp only [ext_ext]); repeat (first | exact Bel.refl _ | refine bel_and ?_ _ | refine bel_drews ?_ _ | refine Bel.ext ?_ _ | refine Bel.alloc ?_ _ | refine Bel.drewN ?_ _)) hl (by omega) (by omega)).mono ?_; rintro e _ ⟨rfl, nx, rfl⟩)
  exact bodyPost_ret (v := .tuple #[.agg #[.int .u8 (wildAsk l).k, .int .i64 (wildAsk l).i, .int .i64 (wildAsk l).a, .int .i64 (wildAsk l).b, .int .i64 (wildAsk l).j, .int .i64 (wildAsk l).n, .int .i64 (wildAsk l).d], .int .i64 (wildLen l)]) (by simp [results, Try.results41, go_sem, E1.out, K1.out, E2.out, L1, Ask.zero]) rfl ⟨rfl, ext_of (by (try simp only [ext_ext]); repeat (first | exact Bel.refl _ | refine bel_and ?_ _ | refine bel_drews ?_ _ | refine Bel.ext ?_ _ | refine Bel.alloc ?_ _ | refine Bel.drewN ?_ _))⟩

set_option maxRecDepth 10000 in
set_option maxHeartbeats 4000000 in
theorem refwild_2o (b o c : Nat) (l : List UInt8) (w : World) (hs : Sl w 1 (some ⟨b, o, none⟩) l.length c (vb l)) (hb : b < w.heap.size) (hl : l.length ≤ 1000000) (h0 : 0 < l.length) (x : UInt8) (hx : l[0]? = some x) (hk : kindV x.toNat = 2) (hv : (6 < (x.toNat : Int) ∧ 1 + (x.toNat : Int) % 6 = 2)) :
    Calls Try.prog 41 #[.slice (some ⟨b, o, none⟩) l.length c] w fun e w' => e = .returned (.tuple #[.agg #[.int .u8 (wildAsk l).k, .int .i64 (wildAsk l).i, .int .i64 (wildAsk l).a, .int .i64 (wildAsk l).b, .int .i64 (wildAsk l).j, .int .i64 (wildAsk l).n, .int .i64 (wildAsk l).d], .int .i64 (wildLen l)]) ∧ ∃ x, w' = ext w x := by
  have hcell := sl_byte hs hx
  rw [Nat.add_zero] at hcell
  have hx256 := UInt8.toNat_lt x
  have v1 := valAt_bound l 1 2 (by omega)
  have v2 := valAt_bound l 3 3 (by omega)
  have v3 := valAt_bound l 6 3 (by omega)
  have v4 := valAt_bound l 1 4 (by omega)
  have v5 := valAt_bound l 5 2 (by omega)
  have hb' := Nat.le_of_lt hb
  have E1 := Lib.hid (show wildAsk l = wildOf 2 l by unfold wildAsk; rw [wildK_of hx, hk])
  have E2 := Lib.hid (show wildLen l = askLen 2 by unfold wildLen; rw [wildK_of hx, hk])
  clear hx
  have K1 := Lib.hid (wildOf_take l)
  have L1 : askLen 2 = 3 := rfl
  obtain ⟨g1, g2⟩ := hv
  have g3 : ¬ (x.toNat : Int) < 1 := by omega
  clear hk
  go_enter Try.func41, Try.ntmps41
  go_wp2_with (go_at_call 52; refine (value_lit _ _ _ _ 1 2 l _ w rfl rfl hs (by (try simp only [ext_ext]); repeat (first | exact Bel.refl _ | refine bel_and ?_ _ | refine bel_drews ?_ _ | refine Bel.ext ?_ _ | refine Bel.alloc ?_ _ | refine Bel.drewN ?_ _)) hl (by omega) (by omega)).mono ?_; rintro e _ ⟨rfl, nx, rfl⟩)
  exact bodyPost_ret (v := .tuple #[.agg #[.int .u8 (wildAsk l).k, .int .i64 (wildAsk l).i, .int .i64 (wildAsk l).a, .int .i64 (wildAsk l).b, .int .i64 (wildAsk l).j, .int .i64 (wildAsk l).n, .int .i64 (wildAsk l).d], .int .i64 (wildLen l)]) (by simp [results, Try.results41, go_sem, E1.out, K1.out, E2.out, L1, Ask.zero, g2]) rfl ⟨rfl, ext_of (by (try simp only [ext_ext]); repeat (first | exact Bel.refl _ | refine bel_and ?_ _ | refine bel_drews ?_ _ | refine Bel.ext ?_ _ | refine Bel.alloc ?_ _ | refine Bel.drewN ?_ _))⟩

set_option maxRecDepth 10000 in
set_option maxHeartbeats 4000000 in
theorem refwild_3i (b o c : Nat) (l : List UInt8) (w : World) (hs : Sl w 1 (some ⟨b, o, none⟩) l.length c (vb l)) (hb : b < w.heap.size) (hl : l.length ≤ 1000000) (h0 : 0 < l.length) (x : UInt8) (hx : l[0]? = some x) (hk : kindV x.toNat = 3) (hv : (x.toNat : Int) = 3) :
    Calls Try.prog 41 #[.slice (some ⟨b, o, none⟩) l.length c] w fun e w' => e = .returned (.tuple #[.agg #[.int .u8 (wildAsk l).k, .int .i64 (wildAsk l).i, .int .i64 (wildAsk l).a, .int .i64 (wildAsk l).b, .int .i64 (wildAsk l).j, .int .i64 (wildAsk l).n, .int .i64 (wildAsk l).d], .int .i64 (wildLen l)]) ∧ ∃ x, w' = ext w x := by
  have hcell := sl_byte hs hx
  rw [Nat.add_zero] at hcell
  have hx256 := UInt8.toNat_lt x
  have v1 := valAt_bound l 1 2 (by omega)
  have v2 := valAt_bound l 3 3 (by omega)
  have v3 := valAt_bound l 6 3 (by omega)
  have v4 := valAt_bound l 1 4 (by omega)
  have v5 := valAt_bound l 5 2 (by omega)
  have hb' := Nat.le_of_lt hb
  have E1 := Lib.hid (show wildAsk l = wildOf 3 l by unfold wildAsk; rw [wildK_of hx, hk])
  have E2 := Lib.hid (show wildLen l = askLen 3 by unfold wildLen; rw [wildK_of hx, hk])
  clear hx
  have K1 := Lib.hid (wildOf_put (k := 3) l (by decide))
  have L1 : askLen 3 = 9 := rfl
  rw [hv] at hcell
  clear hv hk
  go_enter Try.func41, Try.ntmps41
  have p1 : (valAt l 3 3 : Int) % 2097153 - 1048576 = wideV (valAt l 3 3) := rfl
  have p2 : (valAt l 6 3 : Int) % 2097153 - 1048576 = wideV (valAt l 6 3) := rfl
  go_wp2
  ((first | refine RegC.wp_region_tail1 17 (by kernel_rfl) (by kernel_rfl) ?_ | refine RegC.wp_region_tail0 17 (by kernel_rfl) (by kernel_rfl) ?_); simp only [List.take_succ_cons, List.take_zero, List.drop_succ_cons, List.drop_zero]; (repeat (any_goals (first | go_big_quiet_step (first | (go_at_call 52; first | exact Calls.ext_of1 (value_lit _ _ _ _ 1 2 l _ w rfl rfl hs (by (try simp only [ext_ext]); repeat (first | exact Bel.refl _ | refine bel_and ?_ _ | refine bel_drews ?_ _ | refine Bel.ext ?_ _ | refine Bel.alloc ?_ _ | refine Bel.drewN ?_ _)) hl (by omega) (by omega)) | exact Calls.ext_of (value_lit _ _ _ _ 1 2 l _ w rfl rfl hs (by (try simp only [ext_ext]); repeat (first | exact Bel.refl _ | refine bel_and ?_ _ | refine bel_drews ?_ _ | refine Bel.ext ?_ _ | refine Bel.alloc ?_ _ | refine Bel.drewN ?_ _)) hl (by omega) (by omega))) | (go_at_call 52; first | exact Calls.ext_of1 (value_lit _ _ _ _ 3 3 l _ w rfl rfl hs (by (try simp only [ext_ext]); repeat (first | exact Bel.refl _ | refine bel_and ?_ _ | refine bel_drews ?_ _ | refine Bel.ext ?_ _ | refine Bel.alloc ?_ _ | refine Bel.drewN ?_ _)) hl (by omega) (by omega)) | exact Calls.ext_of (value_lit _ _ _ _ 3 3 l _ w rfl rfl hs (by (try simp only [ext_ext]); repeat (first | exact Bel.refl _ | refine bel_and ?_ _ | refine bel_drews ?_ _ | refine Bel.ext ?_ _ | refine Bel.alloc ?_ _ | refine Bel.drewN ?_ _)) hl (by omega) (by omega))) | (go_at_call 52; first | exact Calls.ext_of1 (value_lit _ _ _ _ 6 3 l _ w rfl rfl hs (by (try simp only [ext_ext]); repeat (first | exact Bel.refl _ | refine bel_and ?_ _ | refine bel_drews ?_ _ | refine Bel.ext ?_ _ | refine Bel.alloc ?_ _ | refine Bel.drewN ?_ _)) hl (by omega) (by omega)) | exact Calls.ext_of (value_lit _ _ _ _ 6 3 l _ w rfl rfl hs (by (try simp only [ext_ext]); repeat (first | exact Bel.refl _ | refine bel_and ?_ _ | refine bel_drews ?_ _ | refine Bel.ext ?_ _ | refine Bel.alloc ?_ _ | refine Bel.drewN ?_ _)) hl (by omega) (by omega)))) | (refine RegC.wpQuiet_split rfl rfl (fun hb => ?_) (fun hb => ?_) <;> simp only [hb])))); all_goals (refine wpQuiet_nil ?_; rintro _ ⟨nq, rfl⟩))
  go_wp2
  exact bodyPost_ret (v := .tuple #[.agg #[.int .u8 (wildAsk l).k, .int .i64 (wildAsk l).i, .int .i64 (wildAsk l).a, .int .i64 (wildAsk l).b, .int .i64 (wildAsk l).j, .int .i64 (wildAsk l).n, .int .i64 (wildAsk l).d], .int .i64 (wildLen l)]) (by simp [results, Try.results41, go_sem, E1.out, K1.out, E2.out, L1, Ask.zero]) rfl ⟨rfl, ext_of (by (try simp only [ext_ext]); repeat (first | exact Bel.refl _ | refine bel_and ?_ _ | refine bel_drews ?_ _ | refine Bel.ext ?_ _ | refine Bel.alloc ?_ _ | refine Bel.drewN ?_ _))⟩

set_option maxRecDepth 10000 in
set_option maxHeartbeats 4000000 in
theorem refwild_3o (b o c : Nat) (l : List UInt8) (w : World) (hs : Sl w 1 (some ⟨b, o, none⟩) l.length c (vb l)) (hb : b < w.heap.size) (hl : l.length ≤ 1000000) (h0 : 0 < l.length) (x : UInt8) (hx : l[0]? = some x) (hk : kindV x.toNat = 3) (hv : (6 < (x.toNat : Int) ∧ 1 + (x.toNat : Int) % 6 = 3)) :
    Calls Try.prog 41 #[.slice (some ⟨b, o, none⟩) l.length c] w fun e w' => e = .returned (.tuple #[.agg #[.int .u8 (wildAsk l).k, .int .i64 (wildAsk l).i, .int .i64 (wildAsk l).a, .int .i64 (wildAsk l).b, .int .i64 (wildAsk l).j, .int .i64 (wildAsk l).n, .int .i64 (wildAsk l).d], .int .i64 (wildLen l)]) ∧ ∃ x, w' = ext w x := by
  have hcell := sl_byte hs hx
  rw [Nat.add_zero] at hcell
  have hx256 := UInt8.toNat_lt x
  have v1 := valAt_bound l 1 2 (by omega)
  have v2 := valAt_bound l 3 3 (by omega)
  have v3 := valAt_bound l 6 3 (by omega)
  have v4 := valAt_bound l 1 4 (by omega)
  have v5 := valAt_bound l 5 2 (by omega)
  have hb' := Nat.le_of_lt hb
  have E1 := Lib.hid (show wildAsk l = wildOf 3 l by unfold wildAsk; rw [wildK_of hx, hk])
  have E2 := Lib.hid (show wildLen l = askLen 3 by unfold wildLen; rw [wildK_of hx, hk])
  clear hx
  have K1 := Lib.hid (wildOf_put (k := 3) l (by decide))
  have L1 : askLen 3 = 9 := rfl
  obtain ⟨g1, g2⟩ := hv
  have g3 : ¬ (x.toNat : Int) < 1 := by omega
  clear hk
  go_enter Try.func41, Try.ntmps41
  have p1 : (valAt l 3 3 : Int) % 2097153 - 1048576 = wideV (valAt l 3 3) := rfl
  have p2 : (valAt l 6 3 : Int) % 2097153 - 1048576 = wideV (valAt l 6 3) := rfl
  go_wp2
  ((first | refine RegC.wp_region_tail1 17 (by kernel_rfl) (by kernel_rfl) ?_ | refine RegC.wp_region_tail0 17 (by kernel_rfl) (by kernel_rfl) ?_); simp only [List.take_succ_cons, List.take_zero, List.drop_succ_cons, List.drop_zero]; (repeat (any_goals (first | go_big_quiet_step (first | (go_at_call 52; first | exact Calls.ext_of1 (value_lit _ _ _ _ 1 2 l _ w rfl rfl hs (by (try simp only [ext_ext]); repeat (first | exact Bel.refl _ | refine bel_and ?_ _ | refine bel_drews ?_ _ | refine Bel.ext ?_ _ | refine Bel.alloc ?_ _ | refine Bel.drewN ?_ _)) hl (by omega) (by omega)) | exact Calls.ext_of (value_lit _ _ _ _ 1 2 l _ w rfl rfl hs (by (try simp only [ext_ext]); repeat (first | exact Bel.refl _ | refine bel_and ?_ _ | refine bel_drews ?_ _ | refine Bel.ext ?_ _ | refine Bel.alloc ?_ _ | refine Bel.drewN ?_ _)) hl (by omega) (by omega))) | (go_at_call 52; first | exact Calls.ext_of1 (value_lit _ _ _ _ 3 3 l _ w rfl rfl hs (by (try simp only [ext_ext]); repeat (first | exact Bel.refl _ | refine bel_and ?_ _ | refine bel_drews ?_ _ | refine Bel.ext ?_ _ | refine Bel.alloc ?_ _ | refine Bel.drewN ?_ _)) hl (by omega) (by omega)) | exact Calls.ext_of (value_lit _ _ _ _ 3 3 l _ w rfl rfl hs (by (try simp only [ext_ext]); repeat (first | exact Bel.refl _ | refine bel_and ?_ _ | refine bel_drews ?_ _ | refine Bel.ext ?_ _ | refine Bel.alloc ?_ _ | refine Bel.drewN ?_ _)) hl (by omega) (by omega))) | (go_at_call 52; first | exact Calls.ext_of1 (value_lit _ _ _ _ 6 3 l _ w rfl rfl hs (by (try simp only [ext_ext]); repeat (first | exact Bel.refl _ | refine bel_and ?_ _ | refine bel_drews ?_ _ | refine Bel.ext ?_ _ | refine Bel.alloc ?_ _ | refine Bel.drewN ?_ _)) hl (by omega) (by omega)) | exact Calls.ext_of (value_lit _ _ _ _ 6 3 l _ w rfl rfl hs (by (try simp only [ext_ext]); repeat (first | exact Bel.refl _ | refine bel_and ?_ _ | refine bel_drews ?_ _ | refine Bel.ext ?_ _ | refine Bel.alloc ?_ _ | refine Bel.drewN ?_ _)) hl (by omega) (by omega)))) | (refine RegC.wpQuiet_split rfl rfl (fun hb => ?_) (fun hb => ?_) <;> simp only [hb])))); all_goals (refine wpQuiet_nil ?_; rintro _ ⟨nq, rfl⟩))
  go_wp2
  exact bodyPost_ret (v := .tuple #[.agg #[.int .u8 (wildAsk l).k, .int .i64 (wildAsk l).i, .int .i64 (wildAsk l).a, .int .i64 (wildAsk l).b, .int .i64 (wildAsk l).j, .int .i64 (wildAsk l).n, .int .i64 (wildAsk l).d], .int .i64 (wildLen l)]) (by simp [results, Try.results41, go_sem, E1.out, K1.out, E2.out, L1, Ask.zero, g2]) rfl ⟨rfl, ext_of (by (try simp only [ext_ext]); repeat (first | exact Bel.refl _ | refine bel_and ?_ _ | refine bel_drews ?_ _ | refine Bel.ext ?_ _ | refine Bel.alloc ?_ _ | refine Bel.drewN ?_ _))⟩

end Go.Proofs.Ytijinelgbiombaa
