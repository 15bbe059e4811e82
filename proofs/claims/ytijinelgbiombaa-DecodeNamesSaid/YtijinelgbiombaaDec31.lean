/- decode.Wild. -/
import Derived.Test.YtijinelgbiombaaDec29
import Derived.Test.YtijinelgbiombaaDec30
import Derived.Test.YtijinelgbiombaaDec12
import Derived.Test.YtijinelgbiombaaSpec36d
set_option linter.unusedSimpArgs false
set_option linter.unusedVariables false
namespace Go.Proofs.Ytijinelgbiombaa
open Go.RowKit Go.Pel
set_option maxRecDepth 10000 in
set_option maxHeartbeats 4000000 in
theorem wild_any (A : Option Addr) (c : Nat) (l : List UInt8) (w : World) (hs : Sl w 1 A l.length c (vb l)) (hn : A = none → c = 0) (hl : l.length ≤ 1000000) :
    Calls Try.prog 21 #[.slice A l.length c] w fun e w' => ∃ A' c', e = .returned (.tuple #[.slice A' (wl l).1.length c', .int .i64 (wl l).2]) ∧ ∃ x, w' = ext w x ∧ Own (ext w x) w.heap.size 27 7 A' (wl l).1.length c' (va (wl l).1) := by
  by_cases hm : 1100 < l.length
  · have E1 := Lib.hid (wl_many hm)
    go_enter Try.func21, Try.ntmps21
    go_wp2
    go_ret2
    rw [E1.out]
    exact ⟨_, _, rfl, own_ret (by (try simp only [ext_ext]); repeat (first | exact Bel.refl _ | assumption | refine bel_and ?_ _ | refine bel_drews ?_ _ | refine Bel.ext ?_ _ | refine Bel.alloc ?_ _ | refine Bel.drewN ?_ _)) (Own.nil_ w w.heap.size _ _) (by (try simp only [ext_ext]); repeat (first | exact Bel.refl _ | assumption | refine bel_and ?_ _ | refine bel_drews ?_ _ | refine Bel.ext ?_ _ | refine Bel.alloc ?_ _ | refine Bel.drewN ?_ _)) (Nat.le_refl _)⟩
  · have E1 := Lib.hid (wl_go (l := l) (by omega))
    go_enter Try.func21, Try.ntmps21
    go_wp2_with (refine make_ext slt_bytes (Bel.refl w) (n := 8) (by omega) rfl _ _ rfl rfl rfl ?_; rintro g y hg hown)
    have hz : Sl (ext w y) 1 (some ⟨g, 0, none⟩) (List.replicate 8 (0 : UInt8)).length 8 (vb (List.replicate 8 0)) := by
      have h8 : (madeCells (Value.int .u8 0).cells (8 * 1)).toList = vb (List.replicate 8 0) := made_bytes 8
      rw [h8] at hown
      exact hown.sl
    refine (concat_any (w.heap.size + y.len) A (some ⟨g, 0, none⟩) c 8 l (List.replicate 8 0) _ (by simp [go_sem]) (by simp [go_sem]) (by simp [go_sem]) (hs.bel (by (try simp only [ext_ext]); repeat (first | exact Bel.refl _ | assumption | refine bel_and ?_ _ | refine bel_drews ?_ _ | refine Bel.ext ?_ _ | refine Bel.alloc ?_ _ | refine Bel.drewN ?_ _))) (hz.bel (by (try simp only [ext_ext]); repeat (first | exact Bel.refl _ | assumption | refine bel_and ?_ _ | refine bel_drews ?_ _ | refine Bel.ext ?_ _ | refine Bel.alloc ?_ _ | refine Bel.drewN ?_ _))) hn (fun h => by cases h) hl (by simp) (by simp)).mono ?_
    rintro e _ ⟨A0, c0, rfl, x0, rfl, hleft⟩
    have hL0 := hleft.sl
    generalize hW0 : ext ((ext w y).alloc (.cells #[.slice A l.length c, .slice (some ⟨g, 0, none⟩) 8 8] 28)) x0 = W0 at *
    have hbel0 : Bel w W0 := by rw [← hW0]; exact (by (try simp only [ext_ext]); repeat (first | exact Bel.refl _ | assumption | refine bel_and ?_ _ | refine bel_drews ?_ _ | refine Bel.ext ?_ _ | refine Bel.alloc ?_ _ | refine Bel.drewN ?_ _))
    have HW0 := Lib.hid hW0
    clear hW0 hleft hz hown
    have hll : (l ++ List.replicate 8 (0 : UInt8)).length = l.length + 8 := by simp
    rw [hll] at hL0 ⊢
    go_wp2
    go_loopw [5, 6] (fun v i wr' => ∃ (f k : Nat) (A' : Option Addr) (c' : Nat) (acc : List Pel.Ask) (y : Beyond), l.length - k ≤ f ∧ k ≤ l.length + 8 ∧ i = .int .i64 k ∧ v = .slice A' acc.length c' ∧ acc.length ≤ 120 ∧ wlGo f (l.drop k) acc = wlGo l.length l [] ∧ wr' = ext W0 y ∧ Own wr' W0.heap.size 27 7 A' acc.length c' (va acc)) (fun _ i _ => l.length - (intOf i).toNat)
    case atStart => obtain ⟨y, hy⟩ := ext_of (Bel.refl W0); exact ⟨l.length, 0, none, 0, [], y, Nat.le_refl _, Nat.zero_le _, rfl, rfl, by simp, rfl, hy, Own.nil_ _ _ _ _⟩
    case round =>
      obtain ⟨f, k, A', c', acc, y, hf, hk, rfl, rfl, hacc, hgo, rfl, hown⟩ := hrel
      have HG := Lib.hid hgo; clear hgo
      by_cases hlt : k < l.length
      · by_cases h120 : acc.length < 120
        · obtain ⟨f, rfl⟩ : ∃ f', f = f' + 1 := ⟨f - 1, by omega⟩
          obtain ⟨b0, o0, rfl, hb0⟩ := hL0.at_ (by omega)
          obtain ⟨x, hx⟩ : ∃ x, (l ++ List.replicate 8 (0 : UInt8))[k]? = some x := ⟨_, List.getElem?_eq_getElem (by simp; omega)⟩
          have hcell := sl_byte hL0 hx
          have hx256 := UInt8.toNat_lt x
          have hkl : (k : Int) < (l.length : Int) + 8 := by omega
          have hx0 : (l.drop k)[0]? = some x := by
            rw [List.getElem?_drop, Nat.add_zero]
            rw [List.getElem?_append_left hlt] at hx; exact hx
          have HX0 := Lib.hid hx0
          have hne : l.drop k ≠ [] := by intro h; rw [h] at hx0; cases hx0
          have HOK := Lib.hid (wlGo_step (f := f) hne h120)
          clear hx0 hne hx
          obtain ⟨k0, hk0⟩ : ∃ k0, kindV x.toNat = k0 := ⟨_, rfl⟩
          have hr0 := kindV_range x.toNat
          have HK := Lib.hid hk0
          have hu := hk0
          unfold kindV at hu
          rw [hk0] at hr0
          clear hk0
          rcases (by omega : k0 = 1 ∨ k0 = 2 ∨ k0 = 3 ∨ k0 = 4 ∨ k0 = 5 ∨ k0 = 6) with rfl | rfl | rfl | rfl | rfl | rfl
          · rcases (by split at hu <;> omega : (x.toNat : Int) = 0 ∨ (x.toNat : Int) = 1 ∨ (6 < (x.toNat : Int) ∧ 1 + (x.toNat : Int) % 6 = 1)) with hr | hr | hr
            · clear hu
              obtain ⟨x1, hx1⟩ : ∃ x, (l ++ List.replicate 8 (0 : UInt8))[k + 1]? = some x := ⟨_, List.getElem?_eq_getElem (by simp; omega)⟩
              have cx1 := sl_byte hL0 hx1
              have lx1 := UInt8.toNat_lt x1
              have kx1 : (k : Int) + 1 < (l.length : Int) + 8 := by omega
              obtain ⟨x2, hx2⟩ : ∃ x, (l ++ List.replicate 8 (0 : UInt8))[k + 1 + 1]? = some x := ⟨_, List.getElem?_eq_getElem (by simp; omega)⟩
              have cx2 := sl_byte hL0 hx2
              have lx2 := UInt8.toNat_lt x2
              have kx2 : (k : Int) + 1 + 1 < (l.length : Int) + 8 := by omega
              have qx1 := or_zero x1.toNat (by omega)
              have qx2 := or_byte ((x1.toNat : Int)) x2.toNat (by omega) (by omega) (by omega)
              have V1 := Lib.hid (show (valAt (l.drop k) 1 2 : Int) = ((x1.toNat : Int)) * 256 + (x2.toNat : Int) by rw [valAt_left]; exact valAt2 hx1 hx2)
              obtain ⟨x3, hx3⟩ : ∃ x, (l ++ List.replicate 8 (0 : UInt8))[k + 1 + 1 + 1]? = some x := ⟨_, List.getElem?_eq_getElem (by simp; omega)⟩
              have cx3 := sl_byte hL0 hx3
              have lx3 := UInt8.toNat_lt x3
              have kx3 : (k : Int) + 1 + 1 + 1 < (l.length : Int) + 8 := by omega
              obtain ⟨x4, hx4⟩ : ∃ x, (l ++ List.replicate 8 (0 : UInt8))[k + 1 + 1 + 1 + 1]? = some x := ⟨_, List.getElem?_eq_getElem (by simp; omega)⟩
              have cx4 := sl_byte hL0 hx4
              have lx4 := UInt8.toNat_lt x4
              have kx4 : (k : Int) + 1 + 1 + 1 + 1 < (l.length : Int) + 8 := by omega
              obtain ⟨x5, hx5⟩ : ∃ x, (l ++ List.replicate 8 (0 : UInt8))[k + 1 + 1 + 1 + 1 + 1]? = some x := ⟨_, List.getElem?_eq_getElem (by simp; omega)⟩
              have cx5 := sl_byte hL0 hx5
              have lx5 := UInt8.toNat_lt x5
              have kx5 : (k : Int) + 1 + 1 + 1 + 1 + 1 < (l.length : Int) + 8 := by omega
              have qx3 := or_zero x3.toNat (by omega)
              have qx4 := or_byte ((x3.toNat : Int)) x4.toNat (by omega) (by omega) (by omega)
              have qx5 := or_byte (((x3.toNat : Int)) * 256 + (x4.toNat : Int)) x5.toNat (by omega) (by omega) (by omega)
              have V2 := Lib.hid (show (valAt (l.drop k) 3 3 : Int) = (((x3.toNat : Int)) * 256 + (x4.toNat : Int)) * 256 + (x5.toNat : Int) by rw [valAt_left]; exact valAt3 hx3 hx4 hx5)
              obtain ⟨x6, hx6⟩ : ∃ x, (l ++ List.replicate 8 (0 : UInt8))[k + 1 + 1 + 1 + 1 + 1 + 1]? = some x := ⟨_, List.getElem?_eq_getElem (by simp; omega)⟩
              have cx6 := sl_byte hL0 hx6
              have lx6 := UInt8.toNat_lt x6
              have kx6 : (k : Int) + 1 + 1 + 1 + 1 + 1 + 1 < (l.length : Int) + 8 := by omega
              obtain ⟨x7, hx7⟩ : ∃ x, (l ++ List.replicate 8 (0 : UInt8))[k + 1 + 1 + 1 + 1 + 1 + 1 + 1]? = some x := ⟨_, List.getElem?_eq_getElem (by simp; omega)⟩
              have cx7 := sl_byte hL0 hx7
              have lx7 := UInt8.toNat_lt x7
              have kx7 : (k : Int) + 1 + 1 + 1 + 1 + 1 + 1 + 1 < (l.length : Int) + 8 := by omega
              obtain ⟨x8, hx8⟩ : ∃ x, (l ++ List.replicate 8 (0 : UInt8))[k + 1 + 1 + 1 + 1 + 1 + 1 + 1 + 1]? = some x := ⟨_, List.getElem?_eq_getElem (by simp; omega)⟩
              have cx8 := sl_byte hL0 hx8
              have lx8 := UInt8.toNat_lt x8
              have kx8 : (k : Int) + 1 + 1 + 1 + 1 + 1 + 1 + 1 + 1 < (l.length : Int) + 8 := by omega
              have qx6 := or_zero x6.toNat (by omega)
              have qx7 := or_byte ((x6.toNat : Int)) x7.toNat (by omega) (by omega) (by omega)
              have qx8 := or_byte (((x6.toNat : Int)) * 256 + (x7.toNat : Int)) x8.toNat (by omega) (by omega) (by omega)
              have V3 := Lib.hid (show (valAt (l.drop k) 6 3 : Int) = (((x6.toNat : Int)) * 256 + (x7.toNat : Int)) * 256 + (x8.toNat : Int) by rw [valAt_left]; exact valAt3 hx6 hx7 hx8)
              have EW := Lib.hid (show wildAsk (l.drop k) = wildOf 1 (l.drop k) by unfold wildAsk; rw [wildK_of HX0.out]; exact congrArg (fun z => wildOf z (l.drop k)) HK.out)
              have E2 := Lib.hid (show wildLen (l.drop k) = 9 by unfold wildLen; rw [wildK_of HX0.out, HK.out]; rfl)
              clear hx1 hx2 hx3 hx4 hx5 hx6 hx7 hx8
              rw [hr] at hcell
              clear hr
              go_wp2_with fail
              go_region_held3 (fun w' => w'.cell? ⟨W0.heap.size + y.len, 0, none⟩ = some (.int .u8 1)) (simp [go_sem, *]) ((go_at_call 29; refine (fields_exact _).mono ?_; rintro e _ ⟨rfl, rfl⟩))
              go_wp2
              refine wp_loop_rounds 4 ?_
              rw [rounds_succ]
              go_wp2
              refine wp_loop_rounds 3 ?_
              rw [rounds_succ]
              go_wp2
              rw [rounds_succ]
              go_wp2
              rw [rounds_succ]
              go_wp2_with (go_at_call 39; refine (set_1 _ _ (.int .i64 0) _ (by omega) (by simp [go_sem]) (by simp [go_sem])).mono ?_; rintro e _ ⟨rfl, rfl⟩)
              rw [rounds_succ]
              go_wp2
              refine wp_loop_rounds 4 ?_
              rw [rounds_succ]
              go_wp2
              rw [rounds_succ]
              go_wp2
              rw [rounds_succ]
              go_wp2
              rw [rounds_succ]
              go_wp2_with (go_at_call 39; refine (set_2 _ _ (.int .i64 0) _ (by omega) (by simp [go_sem]) (by simp [go_sem])).mono ?_; rintro e _ ⟨rfl, rfl⟩)
              rw [rounds_succ]
              go_wp2
              refine wp_loop_rounds 4 ?_
              rw [rounds_succ]
              go_wp2
              rw [rounds_succ]
              go_wp2
              rw [rounds_succ]
              go_wp2
              rw [rounds_succ]
              go_wp2_with (go_at_call 39; refine (set_3 _ _ (.int .i64 0) _ (by omega) (by simp [go_sem]) (by simp [go_sem])).mono ?_; rintro e _ ⟨rfl, rfl⟩)
              rw [rounds_succ]
              have bv2 := valAt_lt (l.drop k) 3 3
              have bv3 := valAt_lt (l.drop k) 6 3
              go_wp2_with (first | (go_at_call 40; refine (tamed_put _ _ _ _ (valAt (l.drop k) 3 3) (valAt (l.drop k) 6 3) _ _ (by rw [V2.out]) (by rw [V3.out]) _ (by omega) (by omega) (by omega)).mono ?_; rintro e _ ⟨rfl, nt, rfl⟩) | (at_builtin; (try refine wpList_unguard rfl (by first | rfl | simp [yielded]) ?_); refine append1_ext slt_asks (by (try simp only [ext_ext]); repeat (first | exact Bel.refl _ | assumption | refine bel_and ?_ _ | refine bel_drews ?_ _ | refine Bel.ext ?_ _ | refine Bel.alloc ?_ _ | refine Bel.drewN ?_ _)) hown (by (try simp only [ext_ext]); repeat (first | exact Bel.refl _ | assumption | refine bel_and ?_ _ | refine bel_drews ?_ _ | refine Bel.ext ?_ _ | refine Bel.alloc ?_ _ | refine Bel.drewN ?_ _)) (by simp [Value.oneCell']) rfl (by omega) rfl _ _ rfl rfl rfl (by simp [go_sem]) ?_; rintro A6 c6 y6 hown6))
              skip
              go_roundw
              case rel =>
                refine ⟨f, k + 9, A6, c6, acc ++ [wildAsk (l.drop k)], y6, by omega, by omega, by go_num, by rw [List.length_append]; rfl, by rw [List.length_append]; simp; omega, ?_, rfl, ?_⟩
                · rw [← HG.out, HOK.out, List.drop_drop, E2.out]
                · rw [List.length_append, va_snoc, EW.out, wildOf_put (k := 1) (l.drop k) (by decide), V1.out]; exact hown6.bel (by (try simp only [ext_ext]); repeat (first | exact Bel.refl _ | assumption | refine bel_and ?_ _ | refine bel_drews ?_ _ | refine Bel.ext ?_ _ | refine Bel.alloc ?_ _ | refine Bel.drewN ?_ _))
              case measure => (first | (simp [intOf]; done) | (simp [intOf]; omega))
            · clear hu
              obtain ⟨x1, hx1⟩ : ∃ x, (l ++ List.replicate 8 (0 : UInt8))[k + 1]? = some x := ⟨_, List.getElem?_eq_getElem (by simp; omega)⟩
              have cx1 := sl_byte hL0 hx1
              have lx1 := UInt8.toNat_lt x1
              have kx1 : (k : Int) + 1 < (l.length : Int) + 8 := by omega
              obtain ⟨x2, hx2⟩ : ∃ x, (l ++ List.replicate 8 (0 : UInt8))[k + 1 + 1]? = some x := ⟨_, List.getElem?_eq_getElem (by simp; omega)⟩
              have cx2 := sl_byte hL0 hx2
              have lx2 := UInt8.toNat_lt x2
              have kx2 : (k : Int) + 1 + 1 < (l.length : Int) + 8 := by omega
              have qx1 := or_zero x1.toNat (by omega)
              have qx2 := or_byte ((x1.toNat : Int)) x2.toNat (by omega) (by omega) (by omega)
              have V1 := Lib.hid (show (valAt (l.drop k) 1 2 : Int) = ((x1.toNat : Int)) * 256 + (x2.toNat : Int) by rw [valAt_left]; exact valAt2 hx1 hx2)
              obtain ⟨x3, hx3⟩ : ∃ x, (l ++ List.replicate 8 (0 : UInt8))[k + 1 + 1 + 1]? = some x := ⟨_, List.getElem?_eq_getElem (by simp; omega)⟩
              have cx3 := sl_byte hL0 hx3
              have lx3 := UInt8.toNat_lt x3
              have kx3 : (k : Int) + 1 + 1 + 1 < (l.length : Int) + 8 := by omega
              obtain ⟨x4, hx4⟩ : ∃ x, (l ++ List.replicate 8 (0 : UInt8))[k + 1 + 1 + 1 + 1]? = some x := ⟨_, List.getElem?_eq_getElem (by simp; omega)⟩
              have cx4 := sl_byte hL0 hx4
              have lx4 := UInt8.toNat_lt x4
              have kx4 : (k : Int) + 1 + 1 + 1 + 1 < (l.length : Int) + 8 := by omega
              obtain ⟨x5, hx5⟩ : ∃ x, (l ++ List.replicate 8 (0 : UInt8))[k + 1 + 1 + 1 + 1 + 1]? = some x := ⟨_, List.getElem?_eq_getElem (by simp; omega)⟩
              have cx5 := sl_byte hL0 hx5
              have lx5 := UInt8.toNat_lt x5
              have kx5 : (k : Int) + 1 + 1 + 1 + 1 + 1 < (l.length : Int) + 8 := by omega
              have qx3 := or_zero x3.toNat (by omega)
              have qx4 := or_byte ((x3.toNat : Int)) x4.toNat (by omega) (by omega) (by omega)
              have qx5 := or_byte (((x3.toNat : Int)) * 256 + (x4.toNat : Int)) x5.toNat (by omega) (by omega) (by omega)
              have V2 := Lib.hid (show (valAt (l.drop k) 3 3 : Int) = (((x3.toNat : Int)) * 256 + (x4.toNat : Int)) * 256 + (x5.toNat : Int) by rw [valAt_left]; exact valAt3 hx3 hx4 hx5)
              obtain ⟨x6, hx6⟩ : ∃ x, (l ++ List.replicate 8 (0 : UInt8))[k + 1 + 1 + 1 + 1 + 1 + 1]? = some x := ⟨_, List.getElem?_eq_getElem (by simp; omega)⟩
              have cx6 := sl_byte hL0 hx6
              have lx6 := UInt8.toNat_lt x6
              have kx6 : (k : Int) + 1 + 1 + 1 + 1 + 1 + 1 < (l.length : Int) + 8 := by omega
              obtain ⟨x7, hx7⟩ : ∃ x, (l ++ List.replicate 8 (0 : UInt8))[k + 1 + 1 + 1 + 1 + 1 + 1 + 1]? = some x := ⟨_, List.getElem?_eq_getElem (by simp; omega)⟩
              have cx7 := sl_byte hL0 hx7
              have lx7 := UInt8.toNat_lt x7
              have kx7 : (k : Int) + 1 + 1 + 1 + 1 + 1 + 1 + 1 < (l.length : Int) + 8 := by omega
              obtain ⟨x8, hx8⟩ : ∃ x, (l ++ List.replicate 8 (0 : UInt8))[k + 1 + 1 + 1 + 1 + 1 + 1 + 1 + 1]? = some x := ⟨_, List.getElem?_eq_getElem (by simp; omega)⟩
              have cx8 := sl_byte hL0 hx8
              have lx8 := UInt8.toNat_lt x8
              have kx8 : (k : Int) + 1 + 1 + 1 + 1 + 1 + 1 + 1 + 1 < (l.length : Int) + 8 := by omega
              have qx6 := or_zero x6.toNat (by omega)
              have qx7 := or_byte ((x6.toNat : Int)) x7.toNat (by omega) (by omega) (by omega)
              have qx8 := or_byte (((x6.toNat : Int)) * 256 + (x7.toNat : Int)) x8.toNat (by omega) (by omega) (by omega)
              have V3 := Lib.hid (show (valAt (l.drop k) 6 3 : Int) = (((x6.toNat : Int)) * 256 + (x7.toNat : Int)) * 256 + (x8.toNat : Int) by rw [valAt_left]; exact valAt3 hx6 hx7 hx8)
              have EW := Lib.hid (show wildAsk (l.drop k) = wildOf 1 (l.drop k) by unfold wildAsk; rw [wildK_of HX0.out]; exact congrArg (fun z => wildOf z (l.drop k)) HK.out)
              have E2 := Lib.hid (show wildLen (l.drop k) = 9 by unfold wildLen; rw [wildK_of HX0.out, HK.out]; rfl)
              clear hx1 hx2 hx3 hx4 hx5 hx6 hx7 hx8
              rw [hr] at hcell
              clear hr
              go_wp2_with fail
              go_region_held3 (fun w' => w'.cell? ⟨W0.heap.size + y.len, 0, none⟩ = some (.int .u8 1)) (simp [go_sem, *]) ((go_at_call 29; refine (fields_exact _).mono ?_; rintro e _ ⟨rfl, rfl⟩))
              go_wp2
              refine wp_loop_rounds 4 ?_
              rw [rounds_succ]
              go_wp2
              refine wp_loop_rounds 3 ?_
              rw [rounds_succ]
              go_wp2
              rw [rounds_succ]
              go_wp2
              rw [rounds_succ]
              go_wp2_with (go_at_call 39; refine (set_1 _ _ (.int .i64 0) _ (by omega) (by simp [go_sem]) (by simp [go_sem])).mono ?_; rintro e _ ⟨rfl, rfl⟩)
              rw [rounds_succ]
              go_wp2
              refine wp_loop_rounds 4 ?_
              rw [rounds_succ]
              go_wp2
              rw [rounds_succ]
              go_wp2
              rw [rounds_succ]
              go_wp2
              rw [rounds_succ]
              go_wp2_with (go_at_call 39; refine (set_2 _ _ (.int .i64 0) _ (by omega) (by simp [go_sem]) (by simp [go_sem])).mono ?_; rintro e _ ⟨rfl, rfl⟩)
              rw [rounds_succ]
              go_wp2
              refine wp_loop_rounds 4 ?_
              rw [rounds_succ]
              go_wp2
              rw [rounds_succ]
              go_wp2
              rw [rounds_succ]
              go_wp2
              rw [rounds_succ]
              go_wp2_with (go_at_call 39; refine (set_3 _ _ (.int .i64 0) _ (by omega) (by simp [go_sem]) (by simp [go_sem])).mono ?_; rintro e _ ⟨rfl, rfl⟩)
              rw [rounds_succ]
              have bv2 := valAt_lt (l.drop k) 3 3
              have bv3 := valAt_lt (l.drop k) 6 3
              go_wp2_with (first | (go_at_call 40; refine (tamed_put _ _ _ _ (valAt (l.drop k) 3 3) (valAt (l.drop k) 6 3) _ _ (by rw [V2.out]) (by rw [V3.out]) _ (by omega) (by omega) (by omega)).mono ?_; rintro e _ ⟨rfl, nt, rfl⟩) | (at_builtin; (try refine wpList_unguard rfl (by first | rfl | simp [yielded]) ?_); refine append1_ext slt_asks (by (try simp only [ext_ext]); repeat (first | exact Bel.refl _ | assumption | refine bel_and ?_ _ | refine bel_drews ?_ _ | refine Bel.ext ?_ _ | refine Bel.alloc ?_ _ | refine Bel.drewN ?_ _)) hown (by (try simp only [ext_ext]); repeat (first | exact Bel.refl _ | assumption | refine bel_and ?_ _ | refine bel_drews ?_ _ | refine Bel.ext ?_ _ | refine Bel.alloc ?_ _ | refine Bel.drewN ?_ _)) (by simp [Value.oneCell']) rfl (by omega) rfl _ _ rfl rfl rfl (by simp [go_sem]) ?_; rintro A6 c6 y6 hown6))
              skip
              go_roundw
              case rel =>
                refine ⟨f, k + 9, A6, c6, acc ++ [wildAsk (l.drop k)], y6, by omega, by omega, by go_num, by rw [List.length_append]; rfl, by rw [List.length_append]; simp; omega, ?_, rfl, ?_⟩
                · rw [← HG.out, HOK.out, List.drop_drop, E2.out]
                · rw [List.length_append, va_snoc, EW.out, wildOf_put (k := 1) (l.drop k) (by decide), V1.out]; exact hown6.bel (by (try simp only [ext_ext]); repeat (first | exact Bel.refl _ | assumption | refine bel_and ?_ _ | refine bel_drews ?_ _ | refine Bel.ext ?_ _ | refine Bel.alloc ?_ _ | refine Bel.drewN ?_ _))
              case measure => (first | (simp [intOf]; done) | (simp [intOf]; omega))
            · clear hu
              obtain ⟨g1, g2⟩ := hr
              obtain ⟨x1, hx1⟩ : ∃ x, (l ++ List.replicate 8 (0 : UInt8))[k + 1]? = some x := ⟨_, List.getElem?_eq_getElem (by simp; omega)⟩
              have cx1 := sl_byte hL0 hx1
              have lx1 := UInt8.toNat_lt x1
              have kx1 : (k : Int) + 1 < (l.length : Int) + 8 := by omega
              obtain ⟨x2, hx2⟩ : ∃ x, (l ++ List.replicate 8 (0 : UInt8))[k + 1 + 1]? = some x := ⟨_, List.getElem?_eq_getElem (by simp; omega)⟩
              have cx2 := sl_byte hL0 hx2
              have lx2 := UInt8.toNat_lt x2
              have kx2 : (k : Int) + 1 + 1 < (l.length : Int) + 8 := by omega
              have qx1 := or_zero x1.toNat (by omega)
              have qx2 := or_byte ((x1.toNat : Int)) x2.toNat (by omega) (by omega) (by omega)
              have V1 := Lib.hid (show (valAt (l.drop k) 1 2 : Int) = ((x1.toNat : Int)) * 256 + (x2.toNat : Int) by rw [valAt_left]; exact valAt2 hx1 hx2)
              obtain ⟨x3, hx3⟩ : ∃ x, (l ++ List.replicate 8 (0 : UInt8))[k + 1 + 1 + 1]? = some x := ⟨_, List.getElem?_eq_getElem (by simp; omega)⟩
              have cx3 := sl_byte hL0 hx3
              have lx3 := UInt8.toNat_lt x3
              have kx3 : (k : Int) + 1 + 1 + 1 < (l.length : Int) + 8 := by omega
              obtain ⟨x4, hx4⟩ : ∃ x, (l ++ List.replicate 8 (0 : UInt8))[k + 1 + 1 + 1 + 1]? = some x := ⟨_, List.getElem?_eq_getElem (by simp; omega)⟩
              have cx4 := sl_byte hL0 hx4
              have lx4 := UInt8.toNat_lt x4
              have kx4 : (k : Int) + 1 + 1 + 1 + 1 < (l.length : Int) + 8 := by omega
              obtain ⟨x5, hx5⟩ : ∃ x, (l ++ List.replicate 8 (0 : UInt8))[k + 1 + 1 + 1 + 1 + 1]? = some x := ⟨_, List.getElem?_eq_getElem (by simp; omega)⟩
              have cx5 := sl_byte hL0 hx5
              have lx5 := UInt8.toNat_lt x5
              have kx5 : (k : Int) + 1 + 1 + 1 + 1 + 1 < (l.length : Int) + 8 := by omega
              have qx3 := or_zero x3.toNat (by omega)
              have qx4 := or_byte ((x3.toNat : Int)) x4.toNat (by omega) (by omega) (by omega)
              have qx5 := or_byte (((x3.toNat : Int)) * 256 + (x4.toNat : Int)) x5.toNat (by omega) (by omega) (by omega)
              have V2 := Lib.hid (show (valAt (l.drop k) 3 3 : Int) = (((x3.toNat : Int)) * 256 + (x4.toNat : Int)) * 256 + (x5.toNat : Int) by rw [valAt_left]; exact valAt3 hx3 hx4 hx5)
              obtain ⟨x6, hx6⟩ : ∃ x, (l ++ List.replicate 8 (0 : UInt8))[k + 1 + 1 + 1 + 1 + 1 + 1]? = some x := ⟨_, List.getElem?_eq_getElem (by simp; omega)⟩
              have cx6 := sl_byte hL0 hx6
              have lx6 := UInt8.toNat_lt x6
              have kx6 : (k : Int) + 1 + 1 + 1 + 1 + 1 + 1 < (l.length : Int) + 8 := by omega
              obtain ⟨x7, hx7⟩ : ∃ x, (l ++ List.replicate 8 (0 : UInt8))[k + 1 + 1 + 1 + 1 + 1 + 1 + 1]? = some x := ⟨_, List.getElem?_eq_getElem (by simp; omega)⟩
              have cx7 := sl_byte hL0 hx7
              have lx7 := UInt8.toNat_lt x7
              have kx7 : (k : Int) + 1 + 1 + 1 + 1 + 1 + 1 + 1 < (l.length : Int) + 8 := by omega
              obtain ⟨x8, hx8⟩ : ∃ x, (l ++ List.replicate 8 (0 : UInt8))[k + 1 + 1 + 1 + 1 + 1 + 1 + 1 + 1]? = some x := ⟨_, List.getElem?_eq_getElem (by simp; omega)⟩
              have cx8 := sl_byte hL0 hx8
              have lx8 := UInt8.toNat_lt x8
              have kx8 : (k : Int) + 1 + 1 + 1 + 1 + 1 + 1 + 1 + 1 < (l.length : Int) + 8 := by omega
              have qx6 := or_zero x6.toNat (by omega)
              have qx7 := or_byte ((x6.toNat : Int)) x7.toNat (by omega) (by omega) (by omega)
              have qx8 := or_byte (((x6.toNat : Int)) * 256 + (x7.toNat : Int)) x8.toNat (by omega) (by omega) (by omega)
              have V3 := Lib.hid (show (valAt (l.drop k) 6 3 : Int) = (((x6.toNat : Int)) * 256 + (x7.toNat : Int)) * 256 + (x8.toNat : Int) by rw [valAt_left]; exact valAt3 hx6 hx7 hx8)
              have EW := Lib.hid (show wildAsk (l.drop k) = wildOf 1 (l.drop k) by unfold wildAsk; rw [wildK_of HX0.out]; exact congrArg (fun z => wildOf z (l.drop k)) HK.out)
              have E2 := Lib.hid (show wildLen (l.drop k) = 9 by unfold wildLen; rw [wildK_of HX0.out, HK.out]; rfl)
              clear hx1 hx2 hx3 hx4 hx5 hx6 hx7 hx8
              have g3 : ¬ (x.toNat : Int) < 1 := by omega
              go_wp2_with fail
              go_region_held3 (fun w' => w'.cell? ⟨W0.heap.size + y.len, 0, none⟩ = some (.int .u8 1)) (simp [go_sem, *]) ((go_at_call 29; refine (fields_exact _).mono ?_; rintro e _ ⟨rfl, rfl⟩))
              go_wp2
              refine wp_loop_rounds 4 ?_
              rw [rounds_succ]
              go_wp2
              refine wp_loop_rounds 3 ?_
              rw [rounds_succ]
              go_wp2
              rw [rounds_succ]
              go_wp2
              rw [rounds_succ]
              go_wp2_with (go_at_call 39; refine (set_1 _ _ (.int .i64 0) _ (by omega) (by simp [go_sem]) (by simp [go_sem])).mono ?_; rintro e _ ⟨rfl, rfl⟩)
              rw [rounds_succ]
              go_wp2
              refine wp_loop_rounds 4 ?_
              rw [rounds_succ]
              go_wp2
              rw [rounds_succ]
              go_wp2
              rw [rounds_succ]
              go_wp2
              rw [rounds_succ]
              go_wp2_with (go_at_call 39; refine (set_2 _ _ (.int .i64 0) _ (by omega) (by simp [go_sem]) (by simp [go_sem])).mono ?_; rintro e _ ⟨rfl, rfl⟩)
              rw [rounds_succ]
              go_wp2
              refine wp_loop_rounds 4 ?_
              rw [rounds_succ]
              go_wp2
              rw [rounds_succ]
              go_wp2
              rw [rounds_succ]
              go_wp2
              rw [rounds_succ]
              go_wp2_with (go_at_call 39; refine (set_3 _ _ (.int .i64 0) _ (by omega) (by simp [go_sem]) (by simp [go_sem])).mono ?_; rintro e _ ⟨rfl, rfl⟩)
              rw [rounds_succ]
              have bv2 := valAt_lt (l.drop k) 3 3
              have bv3 := valAt_lt (l.drop k) 6 3
              go_wp2_with (first | (go_at_call 40; refine (tamed_put _ _ _ _ (valAt (l.drop k) 3 3) (valAt (l.drop k) 6 3) _ _ (by rw [V2.out]) (by rw [V3.out]) _ (by omega) (by omega) (by omega)).mono ?_; rintro e _ ⟨rfl, nt, rfl⟩) | (at_builtin; (try refine wpList_unguard rfl (by first | rfl | simp [yielded]) ?_); refine append1_ext slt_asks (by (try simp only [ext_ext]); repeat (first | exact Bel.refl _ | assumption | refine bel_and ?_ _ | refine bel_drews ?_ _ | refine Bel.ext ?_ _ | refine Bel.alloc ?_ _ | refine Bel.drewN ?_ _)) hown (by (try simp only [ext_ext]); repeat (first | exact Bel.refl _ | assumption | refine bel_and ?_ _ | refine bel_drews ?_ _ | refine Bel.ext ?_ _ | refine Bel.alloc ?_ _ | refine Bel.drewN ?_ _)) (by simp [Value.oneCell']) rfl (by omega) rfl _ _ rfl rfl rfl (by simp [go_sem]) ?_; rintro A6 c6 y6 hown6))
              skip
              go_roundw
              case rel =>
                refine ⟨f, k + 9, A6, c6, acc ++ [wildAsk (l.drop k)], y6, by omega, by omega, by go_num, by rw [List.length_append]; rfl, by rw [List.length_append]; simp; omega, ?_, rfl, ?_⟩
                · rw [← HG.out, HOK.out, List.drop_drop, E2.out]
                · rw [List.length_append, va_snoc, EW.out, wildOf_put (k := 1) (l.drop k) (by decide), V1.out]; exact hown6.bel (by (try simp only [ext_ext]); repeat (first | exact Bel.refl _ | assumption | refine bel_and ?_ _ | refine bel_drews ?_ _ | refine Bel.ext ?_ _ | refine Bel.alloc ?_ _ | refine Bel.drewN ?_ _))
              case measure => (first | (simp [intOf]; done) | (simp [intOf]; omega))
          · rcases (by split at hu <;> omega : (x.toNat : Int) = 2 ∨ (6 < (x.toNat : Int) ∧ 1 + (x.toNat : Int) % 6 = 2)) with hr | hr
            · clear hu
              obtain ⟨x1, hx1⟩ : ∃ x, (l ++ List.replicate 8 (0 : UInt8))[k + 1]? = some x := ⟨_, List.getElem?_eq_getElem (by simp; omega)⟩
              have cx1 := sl_byte hL0 hx1
              have lx1 := UInt8.toNat_lt x1
              have kx1 : (k : Int) + 1 < (l.length : Int) + 8 := by omega
              obtain ⟨x2, hx2⟩ : ∃ x, (l ++ List.replicate 8 (0 : UInt8))[k + 1 + 1]? = some x := ⟨_, List.getElem?_eq_getElem (by simp; omega)⟩
              have cx2 := sl_byte hL0 hx2
              have lx2 := UInt8.toNat_lt x2
              have kx2 : (k : Int) + 1 + 1 < (l.length : Int) + 8 := by omega
              have qx1 := or_zero x1.toNat (by omega)
              have qx2 := or_byte ((x1.toNat : Int)) x2.toNat (by omega) (by omega) (by omega)
              have V0 := Lib.hid (show (valAt (l.drop k) 1 2 : Int) = ((x1.toNat : Int)) * 256 + (x2.toNat : Int) by rw [valAt_left]; exact valAt2 hx1 hx2)
              have EW := Lib.hid (show wildAsk (l.drop k) = wildOf 2 (l.drop k) by unfold wildAsk; rw [wildK_of HX0.out]; exact congrArg (fun z => wildOf z (l.drop k)) HK.out)
              have E2 := Lib.hid (show wildLen (l.drop k) = 3 by unfold wildLen; rw [wildK_of HX0.out, HK.out]; rfl)
              clear hx1 hx2
              rw [hr] at hcell
              clear hr
              go_wp2_with fail
              go_region_held3 (fun w' => w'.cell? ⟨W0.heap.size + y.len, 0, none⟩ = some (.int .u8 2)) (simp [go_sem, *]) ((go_at_call 29; refine (fields_exact _).mono ?_; rintro e _ ⟨rfl, rfl⟩))
              go_wp2
              refine wp_loop_rounds 2 ?_
              rw [rounds_succ]
              go_wp2
              refine wp_loop_rounds 3 ?_
              rw [rounds_succ]
              go_wp2
              rw [rounds_succ]
              go_wp2
              rw [rounds_succ]
              go_wp2_with (go_at_call 39; refine (set_0 _ _ (.int .i64 0) _ (by omega) (by simp [go_sem]) (by simp [go_sem])).mono ?_; rintro e _ ⟨rfl, rfl⟩)
              rw [rounds_succ]
              go_wp2_with (first | (go_at_call 40; refine (tamed_bare _ _ _ _ _ _ _ _ _ _ (by omega)).mono ?_; rintro e _ ⟨rfl, nt, rfl⟩) | (at_builtin; (try refine wpList_unguard rfl (by first | rfl | simp [yielded]) ?_); refine append1_ext slt_asks (by (try simp only [ext_ext]); repeat (first | exact Bel.refl _ | assumption | refine bel_and ?_ _ | refine bel_drews ?_ _ | refine Bel.ext ?_ _ | refine Bel.alloc ?_ _ | refine Bel.drewN ?_ _)) hown (by (try simp only [ext_ext]); repeat (first | exact Bel.refl _ | assumption | refine bel_and ?_ _ | refine bel_drews ?_ _ | refine Bel.ext ?_ _ | refine Bel.alloc ?_ _ | refine Bel.drewN ?_ _)) (by simp [Value.oneCell']) rfl (by omega) rfl _ _ rfl rfl rfl (by simp [go_sem]) ?_; rintro A6 c6 y6 hown6))
              skip
              go_roundw
              case rel =>
                refine ⟨f, k + 3, A6, c6, acc ++ [wildAsk (l.drop k)], y6, by omega, by omega, by go_num, by rw [List.length_append]; rfl, by rw [List.length_append]; simp; omega, ?_, rfl, ?_⟩
                · rw [← HG.out, HOK.out, List.drop_drop, E2.out]
                · rw [List.length_append, va_snoc, EW.out, wildOf_take (l.drop k), V0.out]; exact hown6.bel (by (try simp only [ext_ext]); repeat (first | exact Bel.refl _ | assumption | refine bel_and ?_ _ | refine bel_drews ?_ _ | refine Bel.ext ?_ _ | refine Bel.alloc ?_ _ | refine Bel.drewN ?_ _))
              case measure => (first | (simp [intOf]; done) | (simp [intOf]; omega))
            · clear hu
              obtain ⟨g1, g2⟩ := hr
              obtain ⟨x1, hx1⟩ : ∃ x, (l ++ List.replicate 8 (0 : UInt8))[k + 1]? = some x := ⟨_, List.getElem?_eq_getElem (by simp; omega)⟩
              have cx1 := sl_byte hL0 hx1
              have lx1 := UInt8.toNat_lt x1
              have kx1 : (k : Int) + 1 < (l.length : Int) + 8 := by omega
              obtain ⟨x2, hx2⟩ : ∃ x, (l ++ List.replicate 8 (0 : UInt8))[k + 1 + 1]? = some x := ⟨_, List.getElem?_eq_getElem (by simp; omega)⟩
              have cx2 := sl_byte hL0 hx2
              have lx2 := UInt8.toNat_lt x2
              have kx2 : (k : Int) + 1 + 1 < (l.length : Int) + 8 := by omega
              have qx1 := or_zero x1.toNat (by omega)
              have qx2 := or_byte ((x1.toNat : Int)) x2.toNat (by omega) (by omega) (by omega)
              have V0 := Lib.hid (show (valAt (l.drop k) 1 2 : Int) = ((x1.toNat : Int)) * 256 + (x2.toNat : Int) by rw [valAt_left]; exact valAt2 hx1 hx2)
              have EW := Lib.hid (show wildAsk (l.drop k) = wildOf 2 (l.drop k) by unfold wildAsk; rw [wildK_of HX0.out]; exact congrArg (fun z => wildOf z (l.drop k)) HK.out)
              have E2 := Lib.hid (show wildLen (l.drop k) = 3 by unfold wildLen; rw [wildK_of HX0.out, HK.out]; rfl)
              clear hx1 hx2
              have g3 : ¬ (x.toNat : Int) < 1 := by omega
              go_wp2_with fail
              go_region_held3 (fun w' => w'.cell? ⟨W0.heap.size + y.len, 0, none⟩ = some (.int .u8 2)) (simp [go_sem, *]) ((go_at_call 29; refine (fields_exact _).mono ?_; rintro e _ ⟨rfl, rfl⟩))
              go_wp2
              refine wp_loop_rounds 2 ?_
              rw [rounds_succ]
              go_wp2
              refine wp_loop_rounds 3 ?_
              rw [rounds_succ]
              go_wp2
              rw [rounds_succ]
              go_wp2
              rw [rounds_succ]
              go_wp2_with (go_at_call 39; refine (set_0 _ _ (.int .i64 0) _ (by omega) (by simp [go_sem]) (by simp [go_sem])).mono ?_; rintro e _ ⟨rfl, rfl⟩)
              rw [rounds_succ]
              go_wp2_with (first | (go_at_call 40; refine (tamed_bare _ _ _ _ _ _ _ _ _ _ (by omega)).mono ?_; rintro e _ ⟨rfl, nt, rfl⟩) | (at_builtin; (try refine wpList_unguard rfl (by first | rfl | simp [yielded]) ?_); refine append1_ext slt_asks (by (try simp only [ext_ext]); repeat (first | exact Bel.refl _ | assumption | refine bel_and ?_ _ | refine bel_drews ?_ _ | refine Bel.ext ?_ _ | refine Bel.alloc ?_ _ | refine Bel.drewN ?_ _)) hown (by (try simp only [ext_ext]); repeat (first | exact Bel.refl _ | assumption | refine bel_and ?_ _ | refine bel_drews ?_ _ | refine Bel.ext ?_ _ | refine Bel.alloc ?_ _ | refine Bel.drewN ?_ _)) (by simp [Value.oneCell']) rfl (by omega) rfl _ _ rfl rfl rfl (by simp [go_sem]) ?_; rintro A6 c6 y6 hown6))
              skip
              go_roundw
              case rel =>
                refine ⟨f, k + 3, A6, c6, acc ++ [wildAsk (l.drop k)], y6, by omega, by omega, by go_num, by rw [List.length_append]; rfl, by rw [List.length_append]; simp; omega, ?_, rfl, ?_⟩
                · rw [← HG.out, HOK.out, List.drop_drop, E2.out]
                · rw [List.length_append, va_snoc, EW.out, wildOf_take (l.drop k), V0.out]; exact hown6.bel (by (try simp only [ext_ext]); repeat (first | exact Bel.refl _ | assumption | refine bel_and ?_ _ | refine bel_drews ?_ _ | refine Bel.ext ?_ _ | refine Bel.alloc ?_ _ | refine Bel.drewN ?_ _))
              case measure => (first | (simp [intOf]; done) | (simp [intOf]; omega))
          · rcases (by split at hu <;> omega : (x.toNat : Int) = 3 ∨ (6 < (x.toNat : Int) ∧ 1 + (x.toNat : Int) % 6 = 3)) with hr | hr
            · clear hu
              obtain ⟨x1, hx1⟩ : ∃ x, (l ++ List.replicate 8 (0 : UInt8))[k + 1]? = some x := ⟨_, List.getElem?_eq_getElem (by simp; omega)⟩
              have cx1 := sl_byte hL0 hx1
              have lx1 := UInt8.toNat_lt x1
              have kx1 : (k : Int) + 1 < (l.length : Int) + 8 := by omega
              obtain ⟨x2, hx2⟩ : ∃ x, (l ++ List.replicate 8 (0 : UInt8))[k + 1 + 1]? = some x := ⟨_, List.getElem?_eq_getElem (by simp; omega)⟩
              have cx2 := sl_byte hL0 hx2
              have lx2 := UInt8.toNat_lt x2
              have kx2 : (k : Int) + 1 + 1 < (l.length : Int) + 8 := by omega
              have qx1 := or_zero x1.toNat (by omega)
              have qx2 := or_byte ((x1.toNat : Int)) x2.toNat (by omega) (by omega) (by omega)
              have V1 := Lib.hid (show (valAt (l.drop k) 1 2 : Int) = ((x1.toNat : Int)) * 256 + (x2.toNat : Int) by rw [valAt_left]; exact valAt2 hx1 hx2)
              obtain ⟨x3, hx3⟩ : ∃ x, (l ++ List.replicate 8 (0 : UInt8))[k + 1 + 1 + 1]? = some x := ⟨_, List.getElem?_eq_getElem (by simp; omega)⟩
              have cx3 := sl_byte hL0 hx3
              have lx3 := UInt8.toNat_lt x3
              have kx3 : (k : Int) + 1 + 1 + 1 < (l.length : Int) + 8 := by omega
              obtain ⟨x4, hx4⟩ : ∃ x, (l ++ List.replicate 8 (0 : UInt8))[k + 1 + 1 + 1 + 1]? = some x := ⟨_, List.getElem?_eq_getElem (by simp; omega)⟩
              have cx4 := sl_byte hL0 hx4
              have lx4 := UInt8.toNat_lt x4
              have kx4 : (k : Int) + 1 + 1 + 1 + 1 < (l.length : Int) + 8 := by omega
              obtain ⟨x5, hx5⟩ : ∃ x, (l ++ List.replicate 8 (0 : UInt8))[k + 1 + 1 + 1 + 1 + 1]? = some x := ⟨_, List.getElem?_eq_getElem (by simp; omega)⟩
              have cx5 := sl_byte hL0 hx5
              have lx5 := UInt8.toNat_lt x5
              have kx5 : (k : Int) + 1 + 1 + 1 + 1 + 1 < (l.length : Int) + 8 := by omega
              have qx3 := or_zero x3.toNat (by omega)
              have qx4 := or_byte ((x3.toNat : Int)) x4.toNat (by omega) (by omega) (by omega)
              have qx5 := or_byte (((x3.toNat : Int)) * 256 + (x4.toNat : Int)) x5.toNat (by omega) (by omega) (by omega)
              have V2 := Lib.hid (show (valAt (l.drop k) 3 3 : Int) = (((x3.toNat : Int)) * 256 + (x4.toNat : Int)) * 256 + (x5.toNat : Int) by rw [valAt_left]; exact valAt3 hx3 hx4 hx5)
              obtain ⟨x6, hx6⟩ : ∃ x, (l ++ List.replicate 8 (0 : UInt8))[k + 1 + 1 + 1 + 1 + 1 + 1]? = some x := ⟨_, List.getElem?_eq_getElem (by simp; omega)⟩
              have cx6 := sl_byte hL0 hx6
              have lx6 := UInt8.toNat_lt x6
              have kx6 : (k : Int) + 1 + 1 + 1 + 1 + 1 + 1 < (l.length : Int) + 8 := by omega
              obtain ⟨x7, hx7⟩ : ∃ x, (l ++ List.replicate 8 (0 : UInt8))[k + 1 + 1 + 1 + 1 + 1 + 1 + 1]? = some x := ⟨_, List.getElem?_eq_getElem (by simp; omega)⟩
              have cx7 := sl_byte hL0 hx7
              have lx7 := UInt8.toNat_lt x7
              have kx7 : (k : Int) + 1 + 1 + 1 + 1 + 1 + 1 + 1 < (l.length : Int) + 8 := by omega
              obtain ⟨x8, hx8⟩ : ∃ x, (l ++ List.replicate 8 (0 : UInt8))[k + 1 + 1 + 1 + 1 + 1 + 1 + 1 + 1]? = some x := ⟨_, List.getElem?_eq_getElem (by simp; omega)⟩
              have cx8 := sl_byte hL0 hx8
              have lx8 := UInt8.toNat_lt x8
              have kx8 : (k : Int) + 1 + 1 + 1 + 1 + 1 + 1 + 1 + 1 < (l.length : Int) + 8 := by omega
              have qx6 := or_zero x6.toNat (by omega)
              have qx7 := or_byte ((x6.toNat : Int)) x7.toNat (by omega) (by omega) (by omega)
              have qx8 := or_byte (((x6.toNat : Int)) * 256 + (x7.toNat : Int)) x8.toNat (by omega) (by omega) (by omega)
              have V3 := Lib.hid (show (valAt (l.drop k) 6 3 : Int) = (((x6.toNat : Int)) * 256 + (x7.toNat : Int)) * 256 + (x8.toNat : Int) by rw [valAt_left]; exact valAt3 hx6 hx7 hx8)
              have EW := Lib.hid (show wildAsk (l.drop k) = wildOf 3 (l.drop k) by unfold wildAsk; rw [wildK_of HX0.out]; exact congrArg (fun z => wildOf z (l.drop k)) HK.out)
              have E2 := Lib.hid (show wildLen (l.drop k) = 9 by unfold wildLen; rw [wildK_of HX0.out, HK.out]; rfl)
              clear hx1 hx2 hx3 hx4 hx5 hx6 hx7 hx8
              rw [hr] at hcell
              clear hr
              go_wp2_with fail
              go_region_held3 (fun w' => w'.cell? ⟨W0.heap.size + y.len, 0, none⟩ = some (.int .u8 3)) (simp [go_sem, *]) ((go_at_call 29; refine (fields_exact _).mono ?_; rintro e _ ⟨rfl, rfl⟩))
              go_wp2
              refine wp_loop_rounds 4 ?_
              rw [rounds_succ]
              go_wp2
              refine wp_loop_rounds 3 ?_
              rw [rounds_succ]
              go_wp2
              rw [rounds_succ]
              go_wp2
              rw [rounds_succ]
              go_wp2_with (go_at_call 39; refine (set_1 _ _ (.int .i64 0) _ (by omega) (by simp [go_sem]) (by simp [go_sem])).mono ?_; rintro e _ ⟨rfl, rfl⟩)
              rw [rounds_succ]
              go_wp2
              refine wp_loop_rounds 4 ?_
              rw [rounds_succ]
              go_wp2
              rw [rounds_succ]
              go_wp2
              rw [rounds_succ]
              go_wp2
              rw [rounds_succ]
              go_wp2_with (go_at_call 39; refine (set_2 _ _ (.int .i64 0) _ (by omega) (by simp [go_sem]) (by simp [go_sem])).mono ?_; rintro e _ ⟨rfl, rfl⟩)
              rw [rounds_succ]
              go_wp2
              refine wp_loop_rounds 4 ?_
              rw [rounds_succ]
              go_wp2
              rw [rounds_succ]
              go_wp2
              rw [rounds_succ]
              go_wp2
              rw [rounds_succ]
              go_wp2_with (go_at_call 39; refine (set_3 _ _ (.int .i64 0) _ (by omega) (by simp [go_sem]) (by simp [go_sem])).mono ?_; rintro e _ ⟨rfl, rfl⟩)
              rw [rounds_succ]
              have bv2 := valAt_lt (l.drop k) 3 3
              have bv3 := valAt_lt (l.drop k) 6 3
              go_wp2_with (first | (go_at_call 40; refine (tamed_put _ _ _ _ (valAt (l.drop k) 3 3) (valAt (l.drop k) 6 3) _ _ (by rw [V2.out]) (by rw [V3.out]) _ (by omega) (by omega) (by omega)).mono ?_; rintro e _ ⟨rfl, nt, rfl⟩) | (at_builtin; (try refine wpList_unguard rfl (by first | rfl | simp [yielded]) ?_); refine append1_ext slt_asks (by (try simp only [ext_ext]); repeat (first | exact Bel.refl _ | assumption | refine bel_and ?_ _ | refine bel_drews ?_ _ | refine Bel.ext ?_ _ | refine Bel.alloc ?_ _ | refine Bel.drewN ?_ _)) hown (by (try simp only [ext_ext]); repeat (first | exact Bel.refl _ | assumption | refine bel_and ?_ _ | refine bel_drews ?_ _ | refine Bel.ext ?_ _ | refine Bel.alloc ?_ _ | refine Bel.drewN ?_ _)) (by simp [Value.oneCell']) rfl (by omega) rfl _ _ rfl rfl rfl (by simp [go_sem]) ?_; rintro A6 c6 y6 hown6))
              skip
              go_roundw
              case rel =>
                refine ⟨f, k + 9, A6, c6, acc ++ [wildAsk (l.drop k)], y6, by omega, by omega, by go_num, by rw [List.length_append]; rfl, by rw [List.length_append]; simp; omega, ?_, rfl, ?_⟩
                · rw [← HG.out, HOK.out, List.drop_drop, E2.out]
                · rw [List.length_append, va_snoc, EW.out, wildOf_put (k := 3) (l.drop k) (by decide), V1.out]; exact hown6.bel (by (try simp only [ext_ext]); repeat (first | exact Bel.refl _ | assumption | refine bel_and ?_ _ | refine bel_drews ?_ _ | refine Bel.ext ?_ _ | refine Bel.alloc ?_ _ | refine Bel.drewN ?_ _))
              case measure => (first | (simp [intOf]; done) | (simp [intOf]; omega))
            · clear hu
              obtain ⟨g1, g2⟩ := hr
              obtain ⟨x1, hx1⟩ : ∃ x, (l ++ List.replicate 8 (0 : UInt8))[k + 1]? = some x := ⟨_, List.getElem?_eq_getElem (by simp; omega)⟩
              have cx1 := sl_byte hL0 hx1
              have lx1 := UInt8.toNat_lt x1
              have kx1 : (k : Int) + 1 < (l.length : Int) + 8 := by omega
              obtain ⟨x2, hx2⟩ : ∃ x, (l ++ List.replicate 8 (0 : UInt8))[k + 1 + 1]? = some x := ⟨_, List.getElem?_eq_getElem (by simp; omega)⟩
              have cx2 := sl_byte hL0 hx2
              have lx2 := UInt8.toNat_lt x2
              have kx2 : (k : Int) + 1 + 1 < (l.length : Int) + 8 := by omega
              have qx1 := or_zero x1.toNat (by omega)
              have qx2 := or_byte ((x1.toNat : Int)) x2.toNat (by omega) (by omega) (by omega)
              have V1 := Lib.hid (show (valAt (l.drop k) 1 2 : Int) = ((x1.toNat : Int)) * 256 + (x2.toNat : Int) by rw [valAt_left]; exact valAt2 hx1 hx2)
              obtain ⟨x3, hx3⟩ : ∃ x, (l ++ List.replicate 8 (0 : UInt8))[k + 1 + 1 + 1]? = some x := ⟨_, List.getElem?_eq_getElem (by simp; omega)⟩
              have cx3 := sl_byte hL0 hx3
              have lx3 := UInt8.toNat_lt x3
              have kx3 : (k : Int) + 1 + 1 + 1 < (l.length : Int) + 8 := by omega
              obtain ⟨x4, hx4⟩ : ∃ x, (l ++ List.replicate 8 (0 : UInt8))[k + 1 + 1 + 1 + 1]? = some x := ⟨_, List.getElem?_eq_getElem (by simp; omega)⟩
              have cx4 := sl_byte hL0 hx4
              have lx4 := UInt8.toNat_lt x4
              have kx4 : (k : Int) + 1 + 1 + 1 + 1 < (l.length : Int) + 8 := by omega
              obtain ⟨x5, hx5⟩ : ∃ x, (l ++ List.replicate 8 (0 : UInt8))[k + 1 + 1 + 1 + 1 + 1]? = some x := ⟨_, List.getElem?_eq_getElem (by simp; omega)⟩
              have cx5 := sl_byte hL0 hx5
              have lx5 := UInt8.toNat_lt x5
              have kx5 : (k : Int) + 1 + 1 + 1 + 1 + 1 < (l.length : Int) + 8 := by omega
              have qx3 := or_zero x3.toNat (by omega)
              have qx4 := or_byte ((x3.toNat : Int)) x4.toNat (by omega) (by omega) (by omega)
              have qx5 := or_byte (((x3.toNat : Int)) * 256 + (x4.toNat : Int)) x5.toNat (by omega) (by omega) (by omega)
              have V2 := Lib.hid (show (valAt (l.drop k) 3 3 : Int) = (((x3.toNat : Int)) * 256 + (x4.toNat : Int)) * 256 + (x5.toNat : Int) by rw [valAt_left]; exact valAt3 hx3 hx4 hx5)
              obtain ⟨x6, hx6⟩ : ∃ x, (l ++ List.replicate 8 (0 : UInt8))[k + 1 + 1 + 1 + 1 + 1 + 1]? = some x := ⟨_, List.getElem?_eq_getElem (by simp; omega)⟩
              have cx6 := sl_byte hL0 hx6
              have lx6 := UInt8.toNat_lt x6
              have kx6 : (k : Int) + 1 + 1 + 1 + 1 + 1 + 1 < (l.length : Int) + 8 := by omega
              obtain ⟨x7, hx7⟩ : ∃ x, (l ++ List.replicate 8 (0 : UInt8))[k + 1 + 1 + 1 + 1 + 1 + 1 + 1]? = some x := ⟨_, List.getElem?_eq_getElem (by simp; omega)⟩
              have cx7 := sl_byte hL0 hx7
              have lx7 := UInt8.toNat_lt x7
              have kx7 : (k : Int) + 1 + 1 + 1 + 1 + 1 + 1 + 1 < (l.length : Int) + 8 := by omega
              obtain ⟨x8, hx8⟩ : ∃ x, (l ++ List.replicate 8 (0 : UInt8))[k + 1 + 1 + 1 + 1 + 1 + 1 + 1 + 1]? = some x := ⟨_, List.getElem?_eq_getElem (by simp; omega)⟩
              have cx8 := sl_byte hL0 hx8
              have lx8 := UInt8.toNat_lt x8
              have kx8 : (k : Int) + 1 + 1 + 1 + 1 + 1 + 1 + 1 + 1 < (l.length : Int) + 8 := by omega
              have qx6 := or_zero x6.toNat (by omega)
              have qx7 := or_byte ((x6.toNat : Int)) x7.toNat (by omega) (by omega) (by omega)
              have qx8 := or_byte (((x6.toNat : Int)) * 256 + (x7.toNat : Int)) x8.toNat (by omega) (by omega) (by omega)
              have V3 := Lib.hid (show (valAt (l.drop k) 6 3 : Int) = (((x6.toNat : Int)) * 256 + (x7.toNat : Int)) * 256 + (x8.toNat : Int) by rw [valAt_left]; exact valAt3 hx6 hx7 hx8)
              have EW := Lib.hid (show wildAsk (l.drop k) = wildOf 3 (l.drop k) by unfold wildAsk; rw [wildK_of HX0.out]; exact congrArg (fun z => wildOf z (l.drop k)) HK.out)
              have E2 := Lib.hid (show wildLen (l.drop k) = 9 by unfold wildLen; rw [wildK_of HX0.out, HK.out]; rfl)
              clear hx1 hx2 hx3 hx4 hx5 hx6 hx7 hx8
              have g3 : ¬ (x.toNat : Int) < 1 := by omega
              go_wp2_with fail
              go_region_held3 (fun w' => w'.cell? ⟨W0.heap.size + y.len, 0, none⟩ = some (.int .u8 3)) (simp [go_sem, *]) ((go_at_call 29; refine (fields_exact _).mono ?_; rintro e _ ⟨rfl, rfl⟩))
              go_wp2
              refine wp_loop_rounds 4 ?_
              rw [rounds_succ]
              go_wp2
              refine wp_loop_rounds 3 ?_
              rw [rounds_succ]
              go_wp2
              rw [rounds_succ]
              go_wp2
              rw [rounds_succ]
              go_wp2_with (go_at_call 39; refine (set_1 _ _ (.int .i64 0) _ (by omega) (by simp [go_sem]) (by simp [go_sem])).mono ?_; rintro e _ ⟨rfl, rfl⟩)
              rw [rounds_succ]
              go_wp2
              refine wp_loop_rounds 4 ?_
              rw [rounds_succ]
              go_wp2
              rw [rounds_succ]
              go_wp2
              rw [rounds_succ]
              go_wp2
              rw [rounds_succ]
              go_wp2_with (go_at_call 39; refine (set_2 _ _ (.int .i64 0) _ (by omega) (by simp [go_sem]) (by simp [go_sem])).mono ?_; rintro e _ ⟨rfl, rfl⟩)
              rw [rounds_succ]
              go_wp2
              refine wp_loop_rounds 4 ?_
              rw [rounds_succ]
              go_wp2
              rw [rounds_succ]
              go_wp2
              rw [rounds_succ]
              go_wp2
              rw [rounds_succ]
              go_wp2_with (go_at_call 39; refine (set_3 _ _ (.int .i64 0) _ (by omega) (by simp [go_sem]) (by simp [go_sem])).mono ?_; rintro e _ ⟨rfl, rfl⟩)
              rw [rounds_succ]
              have bv2 := valAt_lt (l.drop k) 3 3
              have bv3 := valAt_lt (l.drop k) 6 3
              go_wp2_with (first | (go_at_call 40; refine (tamed_put _ _ _ _ (valAt (l.drop k) 3 3) (valAt (l.drop k) 6 3) _ _ (by rw [V2.out]) (by rw [V3.out]) _ (by omega) (by omega) (by omega)).mono ?_; rintro e _ ⟨rfl, nt, rfl⟩) | (at_builtin; (try refine wpList_unguard rfl (by first | rfl | simp [yielded]) ?_); refine append1_ext slt_asks (by (try simp only [ext_ext]); repeat (first | exact Bel.refl _ | assumption | refine bel_and ?_ _ | refine bel_drews ?_ _ | refine Bel.ext ?_ _ | refine Bel.alloc ?_ _ | refine Bel.drewN ?_ _)) hown (by (try simp only [ext_ext]); repeat (first | exact Bel.refl _ | assumption | refine bel_and ?_ _ | refine bel_drews ?_ _ | refine Bel.ext ?_ _ | refine Bel.alloc ?_ _ | refine Bel.drewN ?_ _)) (by simp [Value.oneCell']) rfl (by omega) rfl _ _ rfl rfl rfl (by simp [go_sem]) ?_; rintro A6 c6 y6 hown6))
              skip
              go_roundw
              case rel =>
                refine ⟨f, k + 9, A6, c6, acc ++ [wildAsk (l.drop k)], y6, by omega, by omega, by go_num, by rw [List.length_append]; rfl, by rw [List.length_append]; simp; omega, ?_, rfl, ?_⟩
                · rw [← HG.out, HOK.out, List.drop_drop, E2.out]
                · rw [List.length_append, va_snoc, EW.out, wildOf_put (k := 3) (l.drop k) (by decide), V1.out]; exact hown6.bel (by (try simp only [ext_ext]); repeat (first | exact Bel.refl _ | assumption | refine bel_and ?_ _ | refine bel_drews ?_ _ | refine Bel.ext ?_ _ | refine Bel.alloc ?_ _ | refine Bel.drewN ?_ _))
              case measure => (first | (simp [intOf]; done) | (simp [intOf]; omega))
          · rcases (by split at hu <;> omega : (x.toNat : Int) = 4 ∨ (6 < (x.toNat : Int) ∧ 1 + (x.toNat : Int) % 6 = 4)) with hr | hr
            · clear hu
              obtain ⟨x1, hx1⟩ : ∃ x, (l ++ List.replicate 8 (0 : UInt8))[k + 1]? = some x := ⟨_, List.getElem?_eq_getElem (by simp; omega)⟩
              have cx1 := sl_byte hL0 hx1
              have lx1 := UInt8.toNat_lt x1
              have kx1 : (k : Int) + 1 < (l.length : Int) + 8 := by omega
              obtain ⟨x2, hx2⟩ : ∃ x, (l ++ List.replicate 8 (0 : UInt8))[k + 1 + 1]? = some x := ⟨_, List.getElem?_eq_getElem (by simp; omega)⟩
              have cx2 := sl_byte hL0 hx2
              have lx2 := UInt8.toNat_lt x2
              have kx2 : (k : Int) + 1 + 1 < (l.length : Int) + 8 := by omega
              obtain ⟨x3, hx3⟩ : ∃ x, (l ++ List.replicate 8 (0 : UInt8))[k + 1 + 1 + 1]? = some x := ⟨_, List.getElem?_eq_getElem (by simp; omega)⟩
              have cx3 := sl_byte hL0 hx3
              have lx3 := UInt8.toNat_lt x3
              have kx3 : (k : Int) + 1 + 1 + 1 < (l.length : Int) + 8 := by omega
              obtain ⟨x4, hx4⟩ : ∃ x, (l ++ List.replicate 8 (0 : UInt8))[k + 1 + 1 + 1 + 1]? = some x := ⟨_, List.getElem?_eq_getElem (by simp; omega)⟩
              have cx4 := sl_byte hL0 hx4
              have lx4 := UInt8.toNat_lt x4
              have kx4 : (k : Int) + 1 + 1 + 1 + 1 < (l.length : Int) + 8 := by omega
              have qx1 := or_zero x1.toNat (by omega)
              have qx2 := or_byte ((x1.toNat : Int)) x2.toNat (by omega) (by omega) (by omega)
              have qx3 := or_byte (((x1.toNat : Int)) * 256 + (x2.toNat : Int)) x3.toNat (by omega) (by omega) (by omega)
              have qx4 := or_byte ((((x1.toNat : Int)) * 256 + (x2.toNat : Int)) * 256 + (x3.toNat : Int)) x4.toNat (by omega) (by omega) (by omega)
              have V4 := Lib.hid (show (valAt (l.drop k) 1 4 : Int) = ((((x1.toNat : Int)) * 256 + (x2.toNat : Int)) * 256 + (x3.toNat : Int)) * 256 + (x4.toNat : Int) by rw [valAt_left]; exact valAt4 hx1 hx2 hx3 hx4)
              obtain ⟨x5, hx5⟩ : ∃ x, (l ++ List.replicate 8 (0 : UInt8))[k + 1 + 1 + 1 + 1 + 1]? = some x := ⟨_, List.getElem?_eq_getElem (by simp; omega)⟩
              have cx5 := sl_byte hL0 hx5
              have lx5 := UInt8.toNat_lt x5
              have kx5 : (k : Int) + 1 + 1 + 1 + 1 + 1 < (l.length : Int) + 8 := by omega
              obtain ⟨x6, hx6⟩ : ∃ x, (l ++ List.replicate 8 (0 : UInt8))[k + 1 + 1 + 1 + 1 + 1 + 1]? = some x := ⟨_, List.getElem?_eq_getElem (by simp; omega)⟩
              have cx6 := sl_byte hL0 hx6
              have lx6 := UInt8.toNat_lt x6
              have kx6 : (k : Int) + 1 + 1 + 1 + 1 + 1 + 1 < (l.length : Int) + 8 := by omega
              have qx5 := or_zero x5.toNat (by omega)
              have qx6 := or_byte ((x5.toNat : Int)) x6.toNat (by omega) (by omega) (by omega)
              have V5 := Lib.hid (show (valAt (l.drop k) 5 2 : Int) = ((x5.toNat : Int)) * 256 + (x6.toNat : Int) by rw [valAt_left]; exact valAt2 hx5 hx6)
              have EW := Lib.hid (show wildAsk (l.drop k) = wildOf 4 (l.drop k) by unfold wildAsk; rw [wildK_of HX0.out]; exact congrArg (fun z => wildOf z (l.drop k)) HK.out)
              have E2 := Lib.hid (show wildLen (l.drop k) = 7 by unfold wildLen; rw [wildK_of HX0.out, HK.out]; rfl)
              clear hx1 hx2 hx3 hx4 hx5 hx6
              rw [hr] at hcell
              clear hr
              go_wp2_with fail
              go_region_held3 (fun w' => w'.cell? ⟨W0.heap.size + y.len, 0, none⟩ = some (.int .u8 4)) (simp [go_sem, *]) ((go_at_call 29; refine (fields_exact _).mono ?_; rintro e _ ⟨rfl, rfl⟩))
              go_wp2
              refine wp_loop_rounds 3 ?_
              rw [rounds_succ]
              go_wp2
              refine wp_loop_rounds 5 ?_
              rw [rounds_succ]
              go_wp2
              rw [rounds_succ]
              go_wp2
              rw [rounds_succ]
              go_wp2
              rw [rounds_succ]
              go_wp2
              rw [rounds_succ]
              go_wp2_with (go_at_call 39; refine (set_4 _ _ (.int .i64 0) _ (by omega) (by simp [go_sem]) (by simp [go_sem])).mono ?_; rintro e _ ⟨rfl, rfl⟩)
              rw [rounds_succ]
              go_wp2
              refine wp_loop_rounds 3 ?_
              rw [rounds_succ]
              go_wp2
              rw [rounds_succ]
              go_wp2
              rw [rounds_succ]
              go_wp2_with (go_at_call 39; refine (set_5 _ _ (.int .i64 0) _ (by omega) (by simp [go_sem]) (by simp [go_sem])).mono ?_; rintro e _ ⟨rfl, rfl⟩)
              rw [rounds_succ]
              have bv2 := valAt_lt (l.drop k) 1 4
              have bv3 := valAt_lt (l.drop k) 5 2
              go_wp2_with (first | (go_at_call 40; refine (tamed_move _ _ (valAt (l.drop k) 1 4) (valAt (l.drop k) 5 2) (by rw [V4.out]) (by rw [V5.out]) _ (by omega) (by omega)).mono ?_; rintro e _ ⟨rfl, nt, rfl⟩) | (at_builtin; (try refine wpList_unguard rfl (by first | rfl | simp [yielded]) ?_); refine append1_ext slt_asks (by (try simp only [ext_ext]); repeat (first | exact Bel.refl _ | assumption | refine bel_and ?_ _ | refine bel_drews ?_ _ | refine Bel.ext ?_ _ | refine Bel.alloc ?_ _ | refine Bel.drewN ?_ _)) hown (by (try simp only [ext_ext]); repeat (first | exact Bel.refl _ | assumption | refine bel_and ?_ _ | refine bel_drews ?_ _ | refine Bel.ext ?_ _ | refine Bel.alloc ?_ _ | refine Bel.drewN ?_ _)) (by simp [Value.oneCell']) rfl (by omega) rfl _ _ rfl rfl rfl (by simp [go_sem]) ?_; rintro A6 c6 y6 hown6))
              skip
              go_roundw
              case rel =>
                refine ⟨f, k + 7, A6, c6, acc ++ [wildAsk (l.drop k)], y6, by omega, by omega, by go_num, by rw [List.length_append]; rfl, by rw [List.length_append]; simp; omega, ?_, rfl, ?_⟩
                · rw [← HG.out, HOK.out, List.drop_drop, E2.out]
                · rw [List.length_append, va_snoc, EW.out, wildOf_move (l.drop k)]; exact hown6.bel (by (try simp only [ext_ext]); repeat (first | exact Bel.refl _ | assumption | refine bel_and ?_ _ | refine bel_drews ?_ _ | refine Bel.ext ?_ _ | refine Bel.alloc ?_ _ | refine Bel.drewN ?_ _))
              case measure => (first | (simp [intOf]; done) | (simp [intOf]; omega))
            · clear hu
              obtain ⟨g1, g2⟩ := hr
              obtain ⟨x1, hx1⟩ : ∃ x, (l ++ List.replicate 8 (0 : UInt8))[k + 1]? = some x := ⟨_, List.getElem?_eq_getElem (by simp; omega)⟩
              have cx1 := sl_byte hL0 hx1
              have lx1 := UInt8.toNat_lt x1
              have kx1 : (k : Int) + 1 < (l.length : Int) + 8 := by omega
              obtain ⟨x2, hx2⟩ : ∃ x, (l ++ List.replicate 8 (0 : UInt8))[k + 1 + 1]? = some x := ⟨_, List.getElem?_eq_getElem (by simp; omega)⟩
              have cx2 := sl_byte hL0 hx2
              have lx2 := UInt8.toNat_lt x2
              have kx2 : (k : Int) + 1 + 1 < (l.length : Int) + 8 := by omega
              obtain ⟨x3, hx3⟩ : ∃ x, (l ++ List.replicate 8 (0 : UInt8))[k + 1 + 1 + 1]? = some x := ⟨_, List.getElem?_eq_getElem (by simp; omega)⟩
              have cx3 := sl_byte hL0 hx3
              have lx3 := UInt8.toNat_lt x3
              have kx3 : (k : Int) + 1 + 1 + 1 < (l.length : Int) + 8 := by omega
              obtain ⟨x4, hx4⟩ : ∃ x, (l ++ List.replicate 8 (0 : UInt8))[k + 1 + 1 + 1 + 1]? = some x := ⟨_, List.getElem?_eq_getElem (by simp; omega)⟩
              have cx4 := sl_byte hL0 hx4
              have lx4 := UInt8.toNat_lt x4
              have kx4 : (k : Int) + 1 + 1 + 1 + 1 < (l.length : Int) + 8 := by omega
              have qx1 := or_zero x1.toNat (by omega)
              have qx2 := or_byte ((x1.toNat : Int)) x2.toNat (by omega) (by omega) (by omega)
              have qx3 := or_byte (((x1.toNat : Int)) * 256 + (x2.toNat : Int)) x3.toNat (by omega) (by omega) (by omega)
              have qx4 := or_byte ((((x1.toNat : Int)) * 256 + (x2.toNat : Int)) * 256 + (x3.toNat : Int)) x4.toNat (by omega) (by omega) (by omega)
              have V4 := Lib.hid (show (valAt (l.drop k) 1 4 : Int) = ((((x1.toNat : Int)) * 256 + (x2.toNat : Int)) * 256 + (x3.toNat : Int)) * 256 + (x4.toNat : Int) by rw [valAt_left]; exact valAt4 hx1 hx2 hx3 hx4)
              obtain ⟨x5, hx5⟩ : ∃ x, (l ++ List.replicate 8 (0 : UInt8))[k + 1 + 1 + 1 + 1 + 1]? = some x := ⟨_, List.getElem?_eq_getElem (by simp; omega)⟩
              have cx5 := sl_byte hL0 hx5
              have lx5 := UInt8.toNat_lt x5
              have kx5 : (k : Int) + 1 + 1 + 1 + 1 + 1 < (l.length : Int) + 8 := by omega
              obtain ⟨x6, hx6⟩ : ∃ x, (l ++ List.replicate 8 (0 : UInt8))[k + 1 + 1 + 1 + 1 + 1 + 1]? = some x := ⟨_, List.getElem?_eq_getElem (by simp; omega)⟩
              have cx6 := sl_byte hL0 hx6
              have lx6 := UInt8.toNat_lt x6
              have kx6 : (k : Int) + 1 + 1 + 1 + 1 + 1 + 1 < (l.length : Int) + 8 := by omega
              have qx5 := or_zero x5.toNat (by omega)
              have qx6 := or_byte ((x5.toNat : Int)) x6.toNat (by omega) (by omega) (by omega)
              have V5 := Lib.hid (show (valAt (l.drop k) 5 2 : Int) = ((x5.toNat : Int)) * 256 + (x6.toNat : Int) by rw [valAt_left]; exact valAt2 hx5 hx6)
              have EW := Lib.hid (show wildAsk (l.drop k) = wildOf 4 (l.drop k) by unfold wildAsk; rw [wildK_of HX0.out]; exact congrArg (fun z => wildOf z (l.drop k)) HK.out)
              have E2 := Lib.hid (show wildLen (l.drop k) = 7 by unfold wildLen; rw [wildK_of HX0.out, HK.out]; rfl)
              clear hx1 hx2 hx3 hx4 hx5 hx6
              have g3 : ¬ (x.toNat : Int) < 1 := by omega
              go_wp2_with fail
              go_region_held3 (fun w' => w'.cell? ⟨W0.heap.size + y.len, 0, none⟩ = some (.int .u8 4)) (simp [go_sem, *]) ((go_at_call 29; refine (fields_exact _).mono ?_; rintro e _ ⟨rfl, rfl⟩))
              go_wp2
              refine wp_loop_rounds 3 ?_
              rw [rounds_succ]
              go_wp2
              refine wp_loop_rounds 5 ?_
              rw [rounds_succ]
              go_wp2
              rw [rounds_succ]
              go_wp2
              rw [rounds_succ]
              go_wp2
              rw [rounds_succ]
              go_wp2
              rw [rounds_succ]
              go_wp2_with (go_at_call 39; refine (set_4 _ _ (.int .i64 0) _ (by omega) (by simp [go_sem]) (by simp [go_sem])).mono ?_; rintro e _ ⟨rfl, rfl⟩)
              rw [rounds_succ]
              go_wp2
              refine wp_loop_rounds 3 ?_
              rw [rounds_succ]
              go_wp2
              rw [rounds_succ]
              go_wp2
              rw [rounds_succ]
              go_wp2_with (go_at_call 39; refine (set_5 _ _ (.int .i64 0) _ (by omega) (by simp [go_sem]) (by simp [go_sem])).mono ?_; rintro e _ ⟨rfl, rfl⟩)
              rw [rounds_succ]
              have bv2 := valAt_lt (l.drop k) 1 4
              have bv3 := valAt_lt (l.drop k) 5 2
              go_wp2_with (first | (go_at_call 40; refine (tamed_move _ _ (valAt (l.drop k) 1 4) (valAt (l.drop k) 5 2) (by rw [V4.out]) (by rw [V5.out]) _ (by omega) (by omega)).mono ?_; rintro e _ ⟨rfl, nt, rfl⟩) | (at_builtin; (try refine wpList_unguard rfl (by first | rfl | simp [yielded]) ?_); refine append1_ext slt_asks (by (try simp only [ext_ext]); repeat (first | exact Bel.refl _ | assumption | refine bel_and ?_ _ | refine bel_drews ?_ _ | refine Bel.ext ?_ _ | refine Bel.alloc ?_ _ | refine Bel.drewN ?_ _)) hown (by (try simp only [ext_ext]); repeat (first | exact Bel.refl _ | assumption | refine bel_and ?_ _ | refine bel_drews ?_ _ | refine Bel.ext ?_ _ | refine Bel.alloc ?_ _ | refine Bel.drewN ?_ _)) (by simp [Value.oneCell']) rfl (by omega) rfl _ _ rfl rfl rfl (by simp [go_sem]) ?_; rintro A6 c6 y6 hown6))
              skip
              go_roundw
              case rel =>
                refine ⟨f, k + 7, A6, c6, acc ++ [wildAsk (l.drop k)], y6, by omega, by omega, by go_num, by rw [List.length_append]; rfl, by rw [List.length_append]; simp; omega, ?_, rfl, ?_⟩
                · rw [← HG.out, HOK.out, List.drop_drop, E2.out]
                · rw [List.length_append, va_snoc, EW.out, wildOf_move (l.drop k)]; exact hown6.bel (by (try simp only [ext_ext]); repeat (first | exact Bel.refl _ | assumption | refine bel_and ?_ _ | refine bel_drews ?_ _ | refine Bel.ext ?_ _ | refine Bel.alloc ?_ _ | refine Bel.drewN ?_ _))
              case measure => (first | (simp [intOf]; done) | (simp [intOf]; omega))
          · rcases (by split at hu <;> omega : (x.toNat : Int) = 5 ∨ (6 < (x.toNat : Int) ∧ 1 + (x.toNat : Int) % 6 = 5)) with hr | hr
            · clear hu
              have EW := Lib.hid (show wildAsk (l.drop k) = wildOf 5 (l.drop k) by unfold wildAsk; rw [wildK_of HX0.out]; exact congrArg (fun z => wildOf z (l.drop k)) HK.out)
              have E2 := Lib.hid (show wildLen (l.drop k) = 1 by unfold wildLen; rw [wildK_of HX0.out, HK.out]; rfl)
              rw [hr] at hcell
              clear hr
              go_wp2_with fail
              go_region_held3 (fun w' => w'.cell? ⟨W0.heap.size + y.len, 0, none⟩ = some (.int .u8 5)) (simp [go_sem, *]) ((go_at_call 29; refine (fields_exact _).mono ?_; rintro e _ ⟨rfl, rfl⟩))
              go_wp2
              refine wp_loop_rounds 1 ?_
              rw [rounds_succ]
              go_wp2_with (first | (go_at_call 40; refine (tamed_bare _ _ _ _ _ _ _ _ _ _ (by omega)).mono ?_; rintro e _ ⟨rfl, nt, rfl⟩) | (at_builtin; (try refine wpList_unguard rfl (by first | rfl | simp [yielded]) ?_); refine append1_ext slt_asks (by (try simp only [ext_ext]); repeat (first | exact Bel.refl _ | assumption | refine bel_and ?_ _ | refine bel_drews ?_ _ | refine Bel.ext ?_ _ | refine Bel.alloc ?_ _ | refine Bel.drewN ?_ _)) hown (by (try simp only [ext_ext]); repeat (first | exact Bel.refl _ | assumption | refine bel_and ?_ _ | refine bel_drews ?_ _ | refine Bel.ext ?_ _ | refine Bel.alloc ?_ _ | refine Bel.drewN ?_ _)) (by simp [Value.oneCell']) rfl (by omega) rfl _ _ rfl rfl rfl (by simp [go_sem]) ?_; rintro A6 c6 y6 hown6))
              skip
              go_roundw
              case rel =>
                refine ⟨f, k + 1, A6, c6, acc ++ [wildAsk (l.drop k)], y6, by omega, by omega, by go_num, by rw [List.length_append]; rfl, by rw [List.length_append]; simp; omega, ?_, rfl, ?_⟩
                · rw [← HG.out, HOK.out, List.drop_drop, E2.out]
                · rw [List.length_append, va_snoc, EW.out, wildOf_bare (k := 5) (l.drop k) (by decide)]; exact hown6.bel (by (try simp only [ext_ext]); repeat (first | exact Bel.refl _ | assumption | refine bel_and ?_ _ | refine bel_drews ?_ _ | refine Bel.ext ?_ _ | refine Bel.alloc ?_ _ | refine Bel.drewN ?_ _))
              case measure => (first | (simp [intOf]; done) | (simp [intOf]; omega))
            · clear hu
              obtain ⟨g1, g2⟩ := hr
              have EW := Lib.hid (show wildAsk (l.drop k) = wildOf 5 (l.drop k) by unfold wildAsk; rw [wildK_of HX0.out]; exact congrArg (fun z => wildOf z (l.drop k)) HK.out)
              have E2 := Lib.hid (show wildLen (l.drop k) = 1 by unfold wildLen; rw [wildK_of HX0.out, HK.out]; rfl)
              have g3 : ¬ (x.toNat : Int) < 1 := by omega
              go_wp2_with fail
              go_region_held3 (fun w' => w'.cell? ⟨W0.heap.size + y.len, 0, none⟩ = some (.int .u8 5)) (simp [go_sem, *]) ((go_at_call 29; refine (fields_exact _).mono ?_; rintro e _ ⟨rfl, rfl⟩))
              go_wp2
              refine wp_loop_rounds 1 ?_
              rw [rounds_succ]
              go_wp2_with (first | (go_at_call 40; refine (tamed_bare _ _ _ _ _ _ _ _ _ _ (by omega)).mono ?_; rintro e _ ⟨rfl, nt, rfl⟩) | (at_builtin; (try refine wpList_unguard rfl (by first | rfl | simp [yielded]) ?_); refine append1_ext slt_asks (by (try simp only [ext_ext]); repeat (first | exact Bel.refl _ | assumption | refine bel_and ?_ _ | refine bel_drews ?_ _ | refine Bel.ext ?_ _ | refine Bel.alloc ?_ _ | refine Bel.drewN ?_ _)) hown (by (try simp only [ext_ext]); repeat (first | exact Bel.refl _ | assumption | refine bel_and ?_ _ | refine bel_drews ?_ _ | refine Bel.ext ?_ _ | refine Bel.alloc ?_ _ | refine Bel.drewN ?_ _)) (by simp [Value.oneCell']) rfl (by omega) rfl _ _ rfl rfl rfl (by simp [go_sem]) ?_; rintro A6 c6 y6 hown6))
              skip
              go_roundw
              case rel =>
                refine ⟨f, k + 1, A6, c6, acc ++ [wildAsk (l.drop k)], y6, by omega, by omega, by go_num, by rw [List.length_append]; rfl, by rw [List.length_append]; simp; omega, ?_, rfl, ?_⟩
                · rw [← HG.out, HOK.out, List.drop_drop, E2.out]
                · rw [List.length_append, va_snoc, EW.out, wildOf_bare (k := 5) (l.drop k) (by decide)]; exact hown6.bel (by (try simp only [ext_ext]); repeat (first | exact Bel.refl _ | assumption | refine bel_and ?_ _ | refine bel_drews ?_ _ | refine Bel.ext ?_ _ | refine Bel.alloc ?_ _ | refine Bel.drewN ?_ _))
              case measure => (first | (simp [intOf]; done) | (simp [intOf]; omega))
          · rcases (by split at hu <;> omega : (x.toNat : Int) = 6 ∨ (6 < (x.toNat : Int) ∧ 1 + (x.toNat : Int) % 6 = 6)) with hr | hr
            · clear hu
              have EW := Lib.hid (show wildAsk (l.drop k) = wildOf 6 (l.drop k) by unfold wildAsk; rw [wildK_of HX0.out]; exact congrArg (fun z => wildOf z (l.drop k)) HK.out)
              have E2 := Lib.hid (show wildLen (l.drop k) = 1 by unfold wildLen; rw [wildK_of HX0.out, HK.out]; rfl)
              rw [hr] at hcell
              clear hr
              go_wp2_with fail
              go_region_held3 (fun w' => w'.cell? ⟨W0.heap.size + y.len, 0, none⟩ = some (.int .u8 6)) (simp [go_sem, *]) ((go_at_call 29; refine (fields_exact _).mono ?_; rintro e _ ⟨rfl, rfl⟩))
              go_wp2
              refine wp_loop_rounds 1 ?_
              rw [rounds_succ]
              go_wp2_with (first | (go_at_call 40; refine (tamed_bare _ _ _ _ _ _ _ _ _ _ (by omega)).mono ?_; rintro e _ ⟨rfl, nt, rfl⟩) | (at_builtin; (try refine wpList_unguard rfl (by first | rfl | simp [yielded]) ?_); refine append1_ext slt_asks (by (try simp only [ext_ext]); repeat (first | exact Bel.refl _ | assumption | refine bel_and ?_ _ | refine bel_drews ?_ _ | refine Bel.ext ?_ _ | refine Bel.alloc ?_ _ | refine Bel.drewN ?_ _)) hown (by (try simp only [ext_ext]); repeat (first | exact Bel.refl _ | assumption | refine bel_and ?_ _ | refine bel_drews ?_ _ | refine Bel.ext ?_ _ | refine Bel.alloc ?_ _ | refine Bel.drewN ?_ _)) (by simp [Value.oneCell']) rfl (by omega) rfl _ _ rfl rfl rfl (by simp [go_sem]) ?_; rintro A6 c6 y6 hown6))
              skip
              go_roundw
              case rel =>
                refine ⟨f, k + 1, A6, c6, acc ++ [wildAsk (l.drop k)], y6, by omega, by omega, by go_num, by rw [List.length_append]; rfl, by rw [List.length_append]; simp; omega, ?_, rfl, ?_⟩
                · rw [← HG.out, HOK.out, List.drop_drop, E2.out]
                · rw [List.length_append, va_snoc, EW.out, wildOf_bare (k := 6) (l.drop k) (by decide)]; exact hown6.bel (by (try simp only [ext_ext]); repeat (first | exact Bel.refl _ | assumption | refine bel_and ?_ _ | refine bel_drews ?_ _ | refine Bel.ext ?_ _ | refine Bel.alloc ?_ _ | refine Bel.drewN ?_ _))
              case measure => (first | (simp [intOf]; done) | (simp [intOf]; omega))
            · clear hu
              obtain ⟨g1, g2⟩ := hr
              have EW := Lib.hid (show wildAsk (l.drop k) = wildOf 6 (l.drop k) by unfold wildAsk; rw [wildK_of HX0.out]; exact congrArg (fun z => wildOf z (l.drop k)) HK.out)
              have E2 := Lib.hid (show wildLen (l.drop k) = 1 by unfold wildLen; rw [wildK_of HX0.out, HK.out]; rfl)
              have g3 : ¬ (x.toNat : Int) < 1 := by omega
              go_wp2_with fail
              go_region_held3 (fun w' => w'.cell? ⟨W0.heap.size + y.len, 0, none⟩ = some (.int .u8 6)) (simp [go_sem, *]) ((go_at_call 29; refine (fields_exact _).mono ?_; rintro e _ ⟨rfl, rfl⟩))
              go_wp2
              refine wp_loop_rounds 1 ?_
              rw [rounds_succ]
              go_wp2_with (first | (go_at_call 40; refine (tamed_bare _ _ _ _ _ _ _ _ _ _ (by omega)).mono ?_; rintro e _ ⟨rfl, nt, rfl⟩) | (at_builtin; (try refine wpList_unguard rfl (by first | rfl | simp [yielded]) ?_); refine append1_ext slt_asks (by (try simp only [ext_ext]); repeat (first | exact Bel.refl _ | assumption | refine bel_and ?_ _ | refine bel_drews ?_ _ | refine Bel.ext ?_ _ | refine Bel.alloc ?_ _ | refine Bel.drewN ?_ _)) hown (by (try simp only [ext_ext]); repeat (first | exact Bel.refl _ | assumption | refine bel_and ?_ _ | refine bel_drews ?_ _ | refine Bel.ext ?_ _ | refine Bel.alloc ?_ _ | refine Bel.drewN ?_ _)) (by simp [Value.oneCell']) rfl (by omega) rfl _ _ rfl rfl rfl (by simp [go_sem]) ?_; rintro A6 c6 y6 hown6))
              skip
              go_roundw
              case rel =>
                refine ⟨f, k + 1, A6, c6, acc ++ [wildAsk (l.drop k)], y6, by omega, by omega, by go_num, by rw [List.length_append]; rfl, by rw [List.length_append]; simp; omega, ?_, rfl, ?_⟩
                · rw [← HG.out, HOK.out, List.drop_drop, E2.out]
                · rw [List.length_append, va_snoc, EW.out, wildOf_bare (k := 6) (l.drop k) (by decide)]; exact hown6.bel (by (try simp only [ext_ext]); repeat (first | exact Bel.refl _ | assumption | refine bel_and ?_ _ | refine bel_drews ?_ _ | refine Bel.ext ?_ _ | refine Bel.alloc ?_ _ | refine Bel.drewN ?_ _))
              case measure => (first | (simp [intOf]; done) | (simp [intOf]; omega))
        · have e3 : wl l = (acc, 0) := by rw [E1.out, ← HG.out, wlGo_end (.inr h120)]
          have HE := Lib.hid e3
          clear e3
          go_wp2
          go_ret2
          rw [HE.out]
          exact ⟨_, _, rfl, own_ret (hbel0.ext y) hown (Bel.refl _) hbel0.size⟩
      · have e3 : wl l = (acc, 0) := by rw [E1.out, ← HG.out, wlGo_end (.inl (List.drop_eq_nil_of_le (by omega)))]
        have HE := Lib.hid e3
        clear e3
        go_wp2
        go_ret2
        rw [HE.out]
        exact ⟨_, _, rfl, own_ret (hbel0.ext y) hown (Bel.refl _) hbel0.size⟩
end Go.Proofs.Ytijinelgbiombaa
