/- decode.scan on the bytes of a take. -/
import Derived.Test.YtijinelgbiombaaDec12
set_option linter.unusedSimpArgs false
set_option linter.unusedVariables false
namespace Go.Proofs.Ytijinelgbiombaa
open Go.RowKit Go.Pel
set_option maxRecDepth 10000 in
set_option maxHeartbeats 4000000 in
theorem scan_take (b o c : Nat) (l : List UInt8) (w : World) (hs : Sl w 1 (some ⟨b, o, none⟩) l.length c (vb l)) (hb : b < w.heap.size) (hl : l.length ≤ 1000000) (x : UInt8) (hx : l[0]? = some x) (hk : (x.toNat : Int) = 2) (hlen : 3 ≤ l.length) :
    Calls Try.prog 32 #[.slice (some ⟨b, o, none⟩) l.length c] w (ScanPost l w) := by
  have hb' := Nat.le_of_lt hb
  have hcell := sl_byte hs hx
  rw [Nat.add_zero, hk] at hcell
  obtain ⟨x1, hx1⟩ : ∃ y, l[1]? = some y := ⟨_, List.getElem?_eq_getElem (by omega)⟩
  obtain ⟨x2, hx2⟩ : ∃ y, l[2]? = some y := ⟨_, List.getElem?_eq_getElem (by omega)⟩
  have d1 := sl_byte hs hx1
  have d2 := sl_byte hs hx2
  have l1 := UInt8.toNat_lt x1
  have l2 := UInt8.toNat_lt x2
  have hcap := hs.cap
  have c1 : ¬ c = 1 := by omega
  have HF := Lib.hid (firstOk_chk hx (by have : askLen (x.toNat : Int) = 3 := by rw [hk]; rfl
                                         omega))
  have HP : plainAsk l = ⟨2, 0, 0, 0, (x1.toNat : Int) * 256 + x2.toNat, 0, 0⟩ := by rw [plainAsk_take hx hk, valAt2 hx1 hx2]
  have HP := Lib.hid HP
  have HX := Lib.hid hx
  have HX1 := Lib.hid hx1
  have HX2 := Lib.hid hx2
  have z0 : ((l.length : Int) == 0) = false := by rw [beq_eq_false_iff_ne]; omega
  clear hk hx hx1 hx2
  have f1 : (1 : Int) ≤ (l.length : Int) := by omega
  have f2 : 0 < l.length := by omega
  go_enter Try.func32, Try.ntmps32
  go_wp2
  refine RegC.wp_scope_passes 0 4 rfl ?_
  go_wp2_with (go_at_call 33; refine (size_take _).mono ?_; rintro e _ ⟨rfl, nx, rfl⟩)
  go_region_held3 (fun w' => w'.cell? ⟨b, o, none⟩ = some (.int .u8 2)) (simp [go_sem, *]) ((go_at_call 29; refine (fields_exact _).mono ?_; rintro e _ ⟨rfl, rfl⟩))
  go_wp2
  have d2' : w.cell? ⟨b, o + 1 + 1, none⟩ = some (.int .u8 x2.toNat) := d2
  have q0 := or_zero x1.toNat (by omega)
  have q1 := or_byte (x1.toNat : Int) x2.toNat (by omega) (by omega) (by omega)
  have wr := IntWalk.i64_in ((x1.toNat : Int) * 256 + x2.toNat) (by omega)
  have f4 : (2 : Int) ≤ (l.length : Int) - 1 := by omega
  have f3 : (2 : Int) ≤ (c : Int) - 1 := by omega
  go_step3
  go_wp2
  refine wp_loop_rounds 3 ?_
  rw [rounds_succ]
  go_wp2
  rw [rounds_succ]
  go_wp2
  rw [rounds_succ]
  go_wp2
  go_region_held3 (fun w' => w'.cell? ⟨w.heap.size + 1 + nx.len + 1 + 2, 0, none⟩ = some (.int .i64 0) ∧ w'.cell? ⟨w.heap.size + 1 + nx.len + 1 + 2, 2, none⟩ = some (.int .i64 0)) (simp [go_sem, *]) ((go_at_call 39; refine (set_0 _ _ (.int .i64 0) _ (by omega) (by simp [go_sem]) (by simp [go_sem])).mono ?_; rintro e _ ⟨rfl, rfl⟩))
  go_wp2
  ((first | refine RegC.wp_region_ext1 (by kernel_rfl) (by kernel_rfl) ?_ | refine RegC.wp_region_ext0 (by kernel_rfl) (by kernel_rfl) ?_); (repeat (any_goals (first | go_big_quiet_step (fail) | (refine RegC.wpQuiet_split rfl rfl (fun hb => ?_) (fun hb => ?_) <;> simp only [hb])))); all_goals (refine wpQuiet_nil ?_; rintro _ ⟨nq, rfl⟩))
  all_goals go_wp2
  all_goals (
    go_step3
    refine ⟨rfl, ?_⟩
    rw [RegC.passes_succ]
    go_wp2
    rcases askChk_cases 2 0 0 0 ((x1.toNat : Int) * 256 + x2.toNat) 0 0 with e0 | e0
    · go_region_held3 (fun w' => w'.cell? ⟨w.heap.size + 1 + nx.len, 0, none⟩ = some (.int .u8 2) ∧ w'.cell? ⟨w.heap.size + 1 + nx.len, 1, none⟩ = some (.int .i64 0) ∧ w'.cell? ⟨w.heap.size + 1 + nx.len, 2, none⟩ = some (.int .i64 0) ∧ w'.cell? ⟨w.heap.size + 1 + nx.len, 3, none⟩ = some (.int .i64 0) ∧ w'.cell? ⟨w.heap.size + 1 + nx.len, 4, none⟩ = some (.int .i64 ((x1.toNat : Int) * 256 + x2.toNat)) ∧ w'.cell? ⟨w.heap.size + 1 + nx.len, 5, none⟩ = some (.int .i64 0) ∧ w'.cell? ⟨w.heap.size + 1 + nx.len, 6, none⟩ = some (.int .i64 0)) (simp [go_sem]) ((go_at_call 14; refine (e0 ▸ decCheck_any _ _ _ _ _ _ _ _ (by omega) (by omega)).mono ?_; rintro e _ ⟨rfl, nx, rfl⟩))
      go_wp2
      simp only [Exit.jump]
      exact bodyPost_ret (v := .tuple #[.agg #[.int .u8 2, .int .i64 0, .int .i64 0, .int .i64 0, .int .i64 ((x1.toNat : Int) * 256 + x2.toNat), .int .i64 0, .int .i64 0], .bool true]) (by simp [results, Try.results32, go_sem]) rfl (scanPost_ok HF.out HP.out e0 (by (try simp only [ext_ext]); repeat (first | exact Bel.refl _ | assumption | refine bel_and ?_ _ | refine bel_drews ?_ _ | refine Bel.ext ?_ _ | refine Bel.alloc ?_ _ | refine Bel.drewN ?_ _)))
    · go_region_held3 (fun w' => w'.cell? ⟨w.heap.size + 1 + nx.len, 0, none⟩ = some (.int .u8 2) ∧ w'.cell? ⟨w.heap.size + 1 + nx.len, 1, none⟩ = some (.int .i64 0) ∧ w'.cell? ⟨w.heap.size + 1 + nx.len, 2, none⟩ = some (.int .i64 0) ∧ w'.cell? ⟨w.heap.size + 1 + nx.len, 3, none⟩ = some (.int .i64 0) ∧ w'.cell? ⟨w.heap.size + 1 + nx.len, 4, none⟩ = some (.int .i64 ((x1.toNat : Int) * 256 + x2.toNat)) ∧ w'.cell? ⟨w.heap.size + 1 + nx.len, 5, none⟩ = some (.int .i64 0) ∧ w'.cell? ⟨w.heap.size + 1 + nx.len, 6, none⟩ = some (.int .i64 0)) (simp [go_sem]) ((go_at_call 14; refine (e0 ▸ decCheck_any _ _ _ _ _ _ _ _ (by omega) (by omega)).mono ?_; rintro e _ ⟨rfl, nx, rfl⟩))
      go_wp2
      simp only [Exit.jump]
      exact bodyPost_ret (v := .tuple #[.agg #[.int .u8 2, .int .i64 0, .int .i64 0, .int .i64 0, .int .i64 ((x1.toNat : Int) * 256 + x2.toNat), .int .i64 0, .int .i64 0], .bool false]) (by simp [results, Try.results32, go_sem]) rfl (scanPost_bad HF.out HP.out e0 (by (try simp only [ext_ext]); repeat (first | exact Bel.refl _ | assumption | refine bel_and ?_ _ | refine bel_drews ?_ _ | refine Bel.ext ?_ _ | refine Bel.alloc ?_ _ | refine Bel.drewN ?_ _))))
end Go.Proofs.Ytijinelgbiombaa
