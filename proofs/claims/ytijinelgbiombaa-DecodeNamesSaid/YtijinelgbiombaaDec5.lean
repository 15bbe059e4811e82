/- Numbers out of bytes: the reference's value, plain. -/
import Derived.Test.YtijinelgbiombaaDec4
set_option linter.unusedSimpArgs false
set_option linter.unusedVariables false
namespace Go.Proofs.Ytijinelgbiombaa
open Go.RowKit Go.Pel
theorem sl_byte {w : World} {b o n c j : Nat} {l : List UInt8} {x : UInt8} (h : Sl w 1 (some ⟨b, o, none⟩) n c (vb l)) (hx : l[j]? = some x) : w.cell? ⟨b, o + j, none⟩ = some (.int .u8 x.toNat) := h.cell (by rw [vb_get, hx]; rfl)
set_option maxHeartbeats 400000 in
theorem value_any (A : Option Addr) (c at0 wd : Nat) (l : List UInt8) (w : World) (hs : Sl w 1 A l.length c (vb l)) (hl : l.length ≤ 1000000) (h1 : at0 ≤ 1000000) (h2 : wd ≤ 8) :
    Calls Try.prog 52 #[.slice A l.length c, .int .i64 at0, .int .i64 wd] w fun e w' => e = .returned (.int .u64 (valAt l at0 wd)) ∧ ∃ x, w' = ext w x := by
  go_enter Try.func52, Try.ntmps52
  go_wp2
  go_loopw [7, 8] (fun a i wr => ∃ (k m : Nat) (y : Beyond), k ≤ wd ∧ a = .int .u64 m ∧ i = .int .i64 ((at0 + k : Nat) : Int) ∧ m < 256 ^ k ∧ m = valAt l at0 k ∧ wr = ext w y) (fun _ i _ => (at0 + wd - intOf i).toNat)
  case atStart => obtain ⟨y, hy⟩ := ext_of (Bel.refl w); exact ⟨0, 0, y, by omega, rfl, rfl, by simp, rfl, hy⟩
  case round =>
    obtain ⟨k, m, y, hk, rfl, rfl, hm, hmk, rfl⟩ := hrel
    by_cases hlt : k < wd
    · have hp : 256 ^ k ≤ 72057594037927936 := Nat.le_trans (Nat.pow_le_pow_right (by decide) (by omega : k ≤ 7)) (by decide)
      have hm' : m < 72057594037927936 := by omega
      have E1 := Lib.hid (fun x => @valAt_in l at0 k x)
      have E2 := Lib.hid (@valAt_out l at0 k)
      have HM := Lib.hid hmk
      have HL := Lib.hid (valAt_lt l at0 (k + 1))
      clear hmk hm hp
      by_cases hin : at0 + k < l.length
      · obtain ⟨x, hx⟩ : ∃ x, l[at0 + k]? = some x := ⟨_, List.getElem?_eq_getElem hin⟩
        have hx256 := UInt8.toNat_lt x
        have HX := Lib.hid hx
        obtain ⟨b, o, rfl, hb⟩ := hs.at_ (by omega)
        have hcell := sl_byte hs hx
        clear hx
        go_wp2
        go_roundw
        case rel =>
          refine ⟨k + 1, m * 256 + x.toNat, y, by omega, by simp, by simp; omega, ?_, ?_, rfl⟩
          · have := HL.out; rw [E1.out x HX.out, ← HM.out] at this; exact this
          · rw [E1.out x HX.out, ← HM.out]
        case measure => (first | (simp [intOf]; done) | (simp [intOf]; omega))
      · go_wp2
        go_roundw
        case rel =>
          refine ⟨k + 1, m * 256, y, by omega, by simp, by simp; omega, ?_, ?_, rfl⟩
          · have := HL.out; rw [E2.out (by omega), ← HM.out] at this; exact this
          · rw [E2.out (by omega), ← HM.out]
        case measure => (first | (simp [intOf]; done) | (simp [intOf]; omega))
    · obtain rfl : k = wd := by omega
      go_wp2
      go_ret
      exact ⟨ret_int (by rw [hmk]), y, rfl⟩

theorem value_lit (A : Option Addr) (c : Nat) (a0 W : Int) (at0 wd : Nat) (l : List UInt8) (w w0 : World) (ha : a0 = at0) (hW : W = wd) (hs : Sl w0 1 A l.length c (vb l)) (hb : Bel w0 w) (hl : l.length ≤ 1000000) (h1 : at0 ≤ 1000000) (h2 : wd ≤ 8) :
    Calls Try.prog 52 #[.slice A l.length c, .int .i64 a0, .int .i64 W] w fun e w' => e = .returned (.int .u64 (valAt l at0 wd)) ∧ ∃ x, w' = ext w x := by
  subst ha hW; exact value_any A c at0 wd l w (hs.bel hb) hl h1 h2

set_option maxHeartbeats 1000000 in
theorem plain_any (A : Option Addr) (c : Nat) (l : List UInt8) (w : World) (hs : Sl w 1 A l.length c (vb l)) (hl : l.length ≤ 1000000) (h0 : 0 < l.length) :
    Calls Try.prog 46 #[.slice A l.length c] w fun e w' => e = .returned (.agg #[.int .u8 (plainAsk l).k, .int .i64 (plainAsk l).i, .int .i64 (plainAsk l).a, .int .i64 (plainAsk l).b, .int .i64 (plainAsk l).j, .int .i64 (plainAsk l).n, .int .i64 (plainAsk l).d]) ∧ ∃ x, w' = ext w x := by
  obtain ⟨x, hx⟩ : ∃ x, l[0]? = some x := ⟨_, List.getElem?_eq_getElem h0⟩
  obtain ⟨b, o, rfl, hb⟩ := hs.at_ h0
  have hcell := sl_byte hs hx
  rw [Nat.add_zero] at hcell
  have hx256 := UInt8.toNat_lt x
  have v1 := valAt_bound l 1 2 (by omega)
  have v2 := valAt_bound l 3 3 (by omega)
  have v3 := valAt_bound l 6 3 (by omega)
  have v4 := valAt_bound l 1 4 (by omega)
  have v5 := valAt_bound l 5 2 (by omega)
  have E1 := Lib.hid (@plainAsk_put l x hx)
  have E2 := Lib.hid (@plainAsk_take l x hx)
  have E3 := Lib.hid (@plainAsk_move l x hx)
  have E4 := Lib.hid (@plainAsk_bare l x hx)
  rcases (by omega : ((x.toNat : Int) = 1 ∨ (x.toNat : Int) = 3) ∨ (x.toNat : Int) = 2 ∨ (x.toNat : Int) = 4 ∨ ((x.toNat : Int) < 1 ∨ 4 < (x.toNat : Int))) with hk | hk | hk | hk
  · have E := Lib.hid (E1.out hk)
    clear E1 E2 E3 E4 hx
    rcases hk with hk | hk
    all_goals (
      rw [hk] at hcell
      have E' := E.out
      rw [hk] at E'
      have E'' := Lib.hid E'
      clear E' hk E
      go_enter Try.func46, Try.ntmps46
      go_wp2_with fail
      refine (value_lit _ _ _ _ 1 2 l _ w rfl rfl hs (by (try simp only [ext_ext]); repeat (first | exact Bel.refl _ | assumption | refine bel_and ?_ _ | refine bel_drews ?_ _ | refine Bel.ext ?_ _ | refine Bel.alloc ?_ _ | refine Bel.drewN ?_ _)) hl (by omega) (by omega)).mono ?_
      rintro e _ ⟨rfl, x1, rfl⟩
      go_wp2_with fail
      refine (value_lit _ _ _ _ 3 3 l _ w rfl rfl hs (by (try simp only [ext_ext]); repeat (first | exact Bel.refl _ | assumption | refine bel_and ?_ _ | refine bel_drews ?_ _ | refine Bel.ext ?_ _ | refine Bel.alloc ?_ _ | refine Bel.drewN ?_ _)) hl (by omega) (by omega)).mono ?_
      rintro e _ ⟨rfl, x2, rfl⟩
      go_wp2_with fail
      refine (value_lit _ _ _ _ 6 3 l _ w rfl rfl hs (by (try simp only [ext_ext]); repeat (first | exact Bel.refl _ | assumption | refine bel_and ?_ _ | refine bel_drews ?_ _ | refine Bel.ext ?_ _ | refine Bel.alloc ?_ _ | refine Bel.drewN ?_ _)) hl (by omega) (by omega)).mono ?_
      rintro e _ ⟨rfl, x3, rfl⟩
      go_wp2_with fail
      exact bodyPost_ret (v := .agg #[.int .u8 (plainAsk l).k, .int .i64 (plainAsk l).i, .int .i64 (plainAsk l).a, .int .i64 (plainAsk l).b, .int .i64 (plainAsk l).j, .int .i64 (plainAsk l).n, .int .i64 (plainAsk l).d]) (by simp [results, Try.results46, go_sem, E''.out]) rfl ⟨rfl, ext_of (by (try simp only [ext_ext]); repeat (first | exact Bel.refl _ | assumption | refine bel_and ?_ _ | refine bel_drews ?_ _ | refine Bel.ext ?_ _ | refine Bel.alloc ?_ _ | refine Bel.drewN ?_ _))⟩)
  · have E := Lib.hid (E2.out hk)
    clear E1 E2 E3 E4 hx
    rw [hk] at hcell
    clear hk
    go_enter Try.func46, Try.ntmps46
    go_wp2_with fail
    refine (value_lit _ _ _ _ 1 2 l _ w rfl rfl hs (by (try simp only [ext_ext]); repeat (first | exact Bel.refl _ | assumption | refine bel_and ?_ _ | refine bel_drews ?_ _ | refine Bel.ext ?_ _ | refine Bel.alloc ?_ _ | refine Bel.drewN ?_ _)) hl (by omega) (by omega)).mono ?_
    rintro e _ ⟨rfl, x1, rfl⟩
    go_wp2_with fail
    exact bodyPost_ret (v := .agg #[.int .u8 (plainAsk l).k, .int .i64 (plainAsk l).i, .int .i64 (plainAsk l).a, .int .i64 (plainAsk l).b, .int .i64 (plainAsk l).j, .int .i64 (plainAsk l).n, .int .i64 (plainAsk l).d]) (by simp [results, Try.results46, go_sem, E.out]) rfl ⟨rfl, ext_of (by (try simp only [ext_ext]); repeat (first | exact Bel.refl _ | assumption | refine bel_and ?_ _ | refine bel_drews ?_ _ | refine Bel.ext ?_ _ | refine Bel.alloc ?_ _ | refine Bel.drewN ?_ _))⟩
  · have E := Lib.hid (E3.out hk)
    clear E1 E2 E3 E4 hx
    rw [hk] at hcell
    clear hk
    go_enter Try.func46, Try.ntmps46
    go_wp2_with fail
    refine (value_lit _ _ _ _ 1 4 l _ w rfl rfl hs (by (try simp only [ext_ext]); repeat (first | exact Bel.refl _ | assumption | refine bel_and ?_ _ | refine bel_drews ?_ _ | refine Bel.ext ?_ _ | refine Bel.alloc ?_ _ | refine Bel.drewN ?_ _)) hl (by omega) (by omega)).mono ?_
    rintro e _ ⟨rfl, x1, rfl⟩
    go_wp2_with fail
    refine (value_lit _ _ _ _ 5 2 l _ w rfl rfl hs (by (try simp only [ext_ext]); repeat (first | exact Bel.refl _ | assumption | refine bel_and ?_ _ | refine bel_drews ?_ _ | refine Bel.ext ?_ _ | refine Bel.alloc ?_ _ | refine Bel.drewN ?_ _)) hl (by omega) (by omega)).mono ?_
    rintro e _ ⟨rfl, x2, rfl⟩
    go_wp2_with fail
    exact bodyPost_ret (v := .agg #[.int .u8 (plainAsk l).k, .int .i64 (plainAsk l).i, .int .i64 (plainAsk l).a, .int .i64 (plainAsk l).b, .int .i64 (plainAsk l).j, .int .i64 (plainAsk l).n, .int .i64 (plainAsk l).d]) (by simp [results, Try.results46, go_sem, E.out]) rfl ⟨rfl, ext_of (by (try simp only [ext_ext]); repeat (first | exact Bel.refl _ | assumption | refine bel_and ?_ _ | refine bel_drews ?_ _ | refine Bel.ext ?_ _ | refine Bel.alloc ?_ _ | refine Bel.drewN ?_ _))⟩
  · have E := Lib.hid (E4.out hk)
    have k1 : ((x.toNat : Int) == 1) = false := by rw [beq_eq_false_iff_ne]; omega
    have k2 : ((x.toNat : Int) == 2) = false := by rw [beq_eq_false_iff_ne]; omega
    have k3 : ((x.toNat : Int) == 3) = false := by rw [beq_eq_false_iff_ne]; omega
    have k4 : ((x.toNat : Int) == 4) = false := by rw [beq_eq_false_iff_ne]; omega
    clear E1 E2 E3 E4 hx hk
    go_enter Try.func46, Try.ntmps46
    go_wp2_with fail
    exact bodyPost_ret (v := .agg #[.int .u8 (plainAsk l).k, .int .i64 (plainAsk l).i, .int .i64 (plainAsk l).a, .int .i64 (plainAsk l).b, .int .i64 (plainAsk l).j, .int .i64 (plainAsk l).n, .int .i64 (plainAsk l).d]) (by simp [results, Try.results46, go_sem, E.out]) rfl ⟨rfl, ext_of (by (try simp only [ext_ext]); repeat (first | exact Bel.refl _ | assumption | refine bel_and ?_ _ | refine bel_drews ?_ _ | refine Bel.ext ?_ _ | refine Bel.alloc ?_ _ | refine Bel.drewN ?_ _))⟩
end Go.Proofs.Ytijinelgbiombaa
