/- The reference's wild (printed by genwild.py). -/
import Derived.Test.YtijinelgbiombaaDec22
import Derived.Test.YtijinelgbiombaaSpec36c
set_option linter.unusedSimpArgs false
set_option linter.unusedVariables false
namespace Go.Proofs.Ytijinelgbiombaa
open Go.RowKit Go.Pel
set_option maxRecDepth 10000 in
set_option maxHeartbeats 4000000 in
theorem refwild_5i (b o c : Nat) (l : List UInt8) (w : World) (hs : Sl w 1 (some ⟨b, o, none⟩) l.length c (vb l)) (hb : b < w.heap.size) (hl : l.length ≤ 1000000) (h0 : 0 < l.length) (x : UInt8) (hx : l[0]? = some x) (hk : kindV x.toNat = 5) (hv : (x.toNat : Int) = 5) :
    Calls Try.prog 41 #[.slice (some ⟨b, o, none⟩) l.length c] w fun e w' => e = .returned (.tuple #[.agg #[.int .u8 (wildAsk l).k, .int .i64 (wildAsk l).i, .int .i64 (wildAsk l).a, .int .i64 (wildAsk l).b, .int .i64 (wildAsk l).j, .int .i64 (wildAsk l).n, .int .i64 (wildAsk l).d], .int .i64 (wildLen l)]) ∧ ∃ x, w' = ext w x := by
  have hcell := sl_byte hs hx
  rw [Nat.add_zero] at hcell
  have hx256 := UInt8.toNat_lt x
  have v1 := valAt_bound l 1 2 (by omega)
  have v2 := valAt_bound l 3 3 (by omega)
  have v3 := valAt_bound l 6 3 (by omega)
  have v4 := valAt_bound l 1 4 (by omega)
  have v5 := valAt_bound l 5 2 (by omega)
  have hb' := Nat.le_of_lt hb
  have E1 := Lib.hid (show wildAsk l = wildOf 5 l by unfold wildAsk; rw [wildK_of hx, hk])
  have E2 := Lib.hid (show wildLen l = askLen 5 by unfold wildLen; rw [wildK_of hx, hk])
  clear hx
  have K1 := Lib.hid (wildOf_bare (k := 5) l (by decide))
  have L1 : askLen 5 = 1 := rfl
  rw [hv] at hcell
  clear hv hk
  go_enter Try.func41, Try.ntmps41
  go_wp2
  first | exact bodyPost_ret (v := .tuple #[.agg #[.int .u8 (wildAsk l).k, .int .i64 (wildAsk l).i, .int .i64 (wildAsk l).a, .int .i64 (wildAsk l).b, .int .i64 (wildAsk l).j, .int .i64 (wildAsk l).n, .int .i64 (wildAsk l).d], .int .i64 (wildLen l)]) (by simp [results, Try.results41, go_sem, E1.out, K1.out, E2.out, L1, Ask.zero]) rfl ⟨rfl, ext_of (by (try simp only [ext_ext]); repeat (first | exact Bel.refl _ | refine bel_and ?_ _ | refine bel_drews ?_ _ | refine Bel.ext ?_ _ | refine Bel.alloc ?_ _ | refine Bel.drewN ?_ _))⟩ | exact bodyPost_ret (v := .tuple #[.agg #[.int .u8 (wildOf 5 l).k, .int .i64 (wildOf 5 l).i, .int .i64 (wildOf 5 l).a, .int .i64 (wildOf 5 l).b, .int .i64 (wildOf 5 l).j, .int .i64 (wildOf 5 l).n, .int .i64 (wildOf 5 l).d], .int .i64 1]) (by simp [results, Try.results41, go_sem, E1.out, K1.out, E2.out, L1, Ask.zero]) rfl ⟨rfl, ext_of (by (try simp only [ext_ext]); repeat (first | exact Bel.refl _ | refine bel_and ?_ _ | refine bel_drews ?_ _ | refine Bel.ext ?_ _ | refine Bel.alloc ?_ _ | refine Bel.drewN ?_ _))⟩

set_option maxRecDepth 10000 in
set_option maxHeartbeats 4000000 in
theorem refwild_5o (b o c : Nat) (l : List UInt8) (w : World) (hs : Sl w 1 (some ⟨b, o, none⟩) l.length c (vb l)) (hb : b < w.heap.size) (hl : l.length ≤ 1000000) (h0 : 0 < l.length) (x : UInt8) (hx : l[0]? = some x) (hk : kindV x.toNat = 5) (hv : (6 < (x.toNat : Int) ∧ 1 + (x.toNat : Int) % 6 = 5)) :
    Calls Try.prog 41 #[.slice (some ⟨b, o, none⟩) l.length c] w fun e w' => e = .returned (.tuple #[.agg #[.int .u8 (wildAsk l).k, .int .i64 (wildAsk l).i, .int .i64 (wildAsk l).a, .int .i64 (wildAsk l).b, .int .i64 (wildAsk l).j, .int .i64 (wildAsk l).n, .int .i64 (wildAsk l).d], .int .i64 (wildLen l)]) ∧ ∃ x, w' = ext w x := by
  have hcell := sl_byte hs hx
  rw [Nat.add_zero] at hcell
  have hx256 := UInt8.toNat_lt x
  have v1 := valAt_bound l 1 2 (by omega)
  have v2 := valAt_bound l 3 3 (by omega)
  have v3 := valAt_bound l 6 3 (by omega)
  have v4 := valAt_bound l 1 4 (by omega)
  have v5 := valAt_bound l 5 2 (by omega)
  have hb' := Nat.le_of_lt hb
  have E1 := Lib.hid (show wildAsk l = wildOf 5 l by unfold wildAsk; rw [wildK_of hx, hk])
  have E2 := Lib.hid (show wildLen l = askLen 5 by unfold wildLen; rw [wildK_of hx, hk])
  clear hx
  have K1 := Lib.hid (wildOf_bare (k := 5) l (by decide))
  have L1 : askLen 5 = 1 := rfl
  obtain ⟨g1, g2⟩ := hv
  have g3 : ¬ (x.toNat : Int) < 1 := by omega
  clear hk
  go_enter Try.func41, Try.ntmps41
  go_wp2
  first | exact bodyPost_ret (v := .tuple #[.agg #[.int .u8 (wildAsk l).k, .int .i64 (wildAsk l).i, .int .i64 (wildAsk l).a, .int .i64 (wildAsk l).b, .int .i64 (wildAsk l).j, .int .i64 (wildAsk l).n, .int .i64 (wildAsk l).d], .int .i64 (wildLen l)]) (by simp [results, Try.results41, go_sem, E1.out, K1.out, E2.out, L1, Ask.zero, g2]) rfl ⟨rfl, ext_of (by (try simp only [ext_ext]); repeat (first | exact Bel.refl _ | refine bel_and ?_ _ | refine bel_drews ?_ _ | refine Bel.ext ?_ _ | refine Bel.alloc ?_ _ | refine Bel.drewN ?_ _))⟩ | exact bodyPost_ret (v := .tuple #[.agg #[.int .u8 (wildOf 5 l).k, .int .i64 (wildOf 5 l).i, .int .i64 (wildOf 5 l).a, .int .i64 (wildOf 5 l).b, .int .i64 (wildOf 5 l).j, .int .i64 (wildOf 5 l).n, .int .i64 (wildOf 5 l).d], .int .i64 1]) (by simp [results, Try.results41, go_sem, E1.out, K1.out, E2.out, L1, Ask.zero, g2]) rfl ⟨rfl, ext_of (by (try simp only [ext_ext]); repeat (first | exact Bel.refl _ | refine bel_and ?_ _ | refine bel_drews ?_ _ | refine Bel.ext ?_ _ | refine Bel.alloc ?_ _ | refine Bel.drewN ?_ _))⟩

set_option maxRecDepth 10000 in
set_option maxHeartbeats 4000000 in
theorem refwild_6i (b o c : Nat) (l : List UInt8) (w : World) (hs : Sl w 1 (some ⟨b, o, none⟩) l.length c (vb l)) (hb : b < w.heap.size) (hl : l.length ≤ 1000000) (h0 : 0 < l.length) (x : UInt8) (hx : l[0]? = some x) (hk : kindV x.toNat = 6) (hv : (x.toNat : Int) = 6) :
    Calls Try.prog 41 #[.slice (some ⟨b, o, none⟩) l.length c] w fun e w' => e = .returned (.tuple #[.agg #[.int .u8 (wildAsk l).k, .int .i64 (wildAsk l).i, .int .i64 (wildAsk l).a, .int .i64 (wildAsk l).b, .int .i64 (wildAsk l).j, .int .i64 (wildAsk l).n, .int .i64 (wildAsk l).d], .int .i64 (wildLen l)]) ∧ ∃ x, w' = ext w x := by
  have hcell := sl_byte hs hx
  rw [Nat.add_zero] at hcell
  have hx256 := UInt8.toNat_lt x
  have v1 := valAt_bound l 1 2 (by omega)
  have v2 := valAt_bound l 3 3 (by omega)
  have v3 := valAt_bound l 6 3 (by omega)
  have v4 := valAt_bound l 1 4 (by omega)
  have v5 := valAt_bound l 5 2 (by omega)
  have hb' := Nat.le_of_lt hb
  have E1 := Lib.hid (show wildAsk l = wildOf 6 l by unfold wildAsk; rw [wildK_of hx, hk])
  have E2 := Lib.hid (show wildLen l = askLen 6 by unfold wildLen; rw [wildK_of hx, hk])
  clear hx
  have K1 := Lib.hid (wildOf_bare (k := 6) l (by decide))
  have L1 : askLen 6 = 1 := rfl
  rw [hv] at hcell
  clear hv hk
  go_enter Try.func41, Try.ntmps41
  go_wp2
  first | exact bodyPost_ret (v := .tuple #[.agg #[.int .u8 (wildAsk l).k, .int .i64 (wildAsk l).i, .int .i64 (wildAsk l).a, .int .i64 (wildAsk l).b, .int .i64 (wildAsk l).j, .int .i64 (wildAsk l).n, .int .i64 (wildAsk l).d], .int .i64 (wildLen l)]) (by simp [results, Try.results41, go_sem, E1.out, K1.out, E2.out, L1, Ask.zero]) rfl ⟨rfl, ext_of (by (try simp only [ext_ext]); repeat (first | exact Bel.refl _ | refine bel_and ?_ _ | refine bel_drews ?_ _ | refine Bel.ext ?_ _ | refine Bel.alloc ?_ _ | refine Bel.drewN ?_ _))⟩ | exact bodyPost_ret (v := .tuple #[.agg #[.int .u8 (wildOf 6 l).k, .int .i64 (wildOf 6 l).i, .int .i64 (wildOf 6 l).a, .int .i64 (wildOf 6 l).b, .int .i64 (wildOf 6 l).j, .int .i64 (wildOf 6 l).n, .int .i64 (wildOf 6 l).d], .int .i64 1]) (by simp [results, Try.results41, go_sem, E1.out, K1.out, E2.out, L1, Ask.zero]) rfl ⟨rfl, ext_of (by (try simp only [ext_ext]); repeat (first | exact Bel.refl _ | refine bel_and ?_ _ | refine bel_drews ?_ _ | refine Bel.ext ?_ _ | refine Bel.alloc ?_ _ | refine Bel.drewN ?_ _))⟩

set_option maxRecDepth 10000 in
set_option maxHeartbeats 4000000 in
theorem refwild_6o (b o c : Nat) (l : List UInt8) (w : World) (hs : Sl w 1 (some ⟨b, o, none⟩) l.length c (vb l)) (hb : b < w.heap.size) (hl : l.length ≤ 1000000) (h0 : 0 < l.length) (x : UInt8) (hx : l[0]? = some x) (hk : kindV x.toNat = 6) (hv : (6 < (x.toNat : Int) ∧ 1 + (x.toNat : Int) % 6 = 6)) :
    Calls Try.prog 41 #[.slice (some ⟨b, o, none⟩) l.length c] w fun e w' => e = .returned (.tuple #[.agg #[.int .u8 (wildAsk l).k, .int .i64 (wildAsk l).i, .int .i64 (wildAsk l).a, .int .i64 (wildAsk l).b, .int .i64 (wildAsk l).j, .int .i64 (wildAsk l).n, .int .i64 (wildAsk l).d], .int .i64 (wildLen l)]) ∧ ∃ x, w' = ext w x := by
  have hcell := sl_byte hs hx
  rw [Nat.add_zero] at hcell
  have hx256 := UInt8.toNat_lt x
  have v1 := valAt_bound l 1 2 (by omega)
  have v2 := valAt_bound l 3 3 (by omega)
  have v3 := valAt_bound l 6 3 (by omega)
  have v4 := valAt_bound l 1 4 (by omega)
  have v5 := valAt_bound l 5 2 (by omega)
  have hb' := Nat.le_of_lt hb
  have E1 := Lib.hid (show wildAsk l = wildOf 6 l by unfold wildAsk; rw [wildK_of hx, hk])
  have E2 := Lib.hid (show wildLen l = askLen 6 by unfold wildLen; rw [wildK_of hx, hk])
  clear hx
  have K1 := Lib.hid (wildOf_bare (k := 6) l (by decide))
  have L1 : askLen 6 = 1 := rfl
  obtain ⟨g1, g2⟩ := hv
  have g3 : ¬ (x.toNat : Int) < 1 := by omega
  clear hk
  go_enter Try.func41, Try.ntmps41
  go_wp2
  first | exact bodyPost_ret (v := .tuple #[.agg #[.int .u8 (wildAsk l).k, .int .i64 (wildAsk l).i, .int .i64 (wildAsk l).a, .int .i64 (wildAsk l).b, .int .i64 (wildAsk l).j, .int .i64 (wildAsk l).n, .int .i64 (wildAsk l).d], .int .i64 (wildLen l)]) (by simp [results, Try.results41, go_sem, E1.out, K1.out, E2.out, L1, Ask.zero, g2]) rfl ⟨rfl, ext_of (by (try simp only [ext_ext]); repeat (first | exact Bel.refl _ | refine bel_and ?_ _ | refine bel_drews ?_ _ | refine Bel.ext ?_ _ | refine Bel.alloc ?_ _ | refine Bel.drewN ?_ _))⟩ | exact bodyPost_ret (v := .tuple #[.agg #[.int .u8 (wildOf 6 l).k, .int .i64 (wildOf 6 l).i, .int .i64 (wildOf 6 l).a, .int .i64 (wildOf 6 l).b, .int .i64 (wildOf 6 l).j, .int .i64 (wildOf 6 l).n, .int .i64 (wildOf 6 l).d], .int .i64 1]) (by simp [results, Try.results41, go_sem, E1.out, K1.out, E2.out, L1, Ask.zero, g2]) rfl ⟨rfl, ext_of (by (try simp only [ext_ext]); repeat (first | exact Bel.refl _ | refine bel_and ?_ _ | refine bel_drews ?_ _ | refine Bel.ext ?_ _ | refine Bel.alloc ?_ _ | refine Bel.drewN ?_ _))⟩

end Go.Proofs.Ytijinelgbiombaa
