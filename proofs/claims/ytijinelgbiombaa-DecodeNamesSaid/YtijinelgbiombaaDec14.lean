/- decode.scan on the bytes of a move. -/
import Derived.Test.YtijinelgbiombaaDec12
set_option linter.unusedSimpArgs false
set_option linter.unusedVariables false
namespace Go.Proofs.Ytijinelgbiombaa
open Go.RowKit Go.Pel
set_option maxRecDepth 10000 in
set_option maxHeartbeats 16000000 in
theorem scan_move (b o c : Nat) (l : List UInt8) (w : World) (hs : Sl w 1 (some ⟨b, o, none⟩) l.length c (vb l)) (hb : b < w.heap.size) (hl : l.length ≤ 1000000) (x : UInt8) (hx : l[0]? = some x) (hk : (x.toNat : Int) = 4) (hlen : 7 ≤ l.length) :
    Calls Try.prog 32 #[.slice (some ⟨b, o, none⟩) l.length c] w (ScanPost l w) := by
  have hb' := Nat.le_of_lt hb
  have hcell := sl_byte hs hx
  rw [Nat.add_zero, hk] at hcell
  obtain ⟨x1, hx1⟩ : ∃ y, l[1]? = some y := ⟨_, List.getElem?_eq_getElem (by omega)⟩
  have lx1 := UInt8.toNat_lt x1
  have dx1 : w.cell? ⟨b, o + 1, none⟩ = some (.int .u8 x1.toNat) := (by have h := sl_byte hs hx1; simpa only [Nat.add_assoc, Nat.reduceAdd] using h)
  obtain ⟨x2, hx2⟩ : ∃ y, l[2]? = some y := ⟨_, List.getElem?_eq_getElem (by omega)⟩
  have lx2 := UInt8.toNat_lt x2
  have dx2 : w.cell? ⟨b, o + 1 + 1, none⟩ = some (.int .u8 x2.toNat) := (by have h := sl_byte hs hx2; simpa only [Nat.add_assoc, Nat.reduceAdd] using h)
  obtain ⟨x3, hx3⟩ : ∃ y, l[3]? = some y := ⟨_, List.getElem?_eq_getElem (by omega)⟩
  have lx3 := UInt8.toNat_lt x3
  have dx3 : w.cell? ⟨b, o + 1 + 2, none⟩ = some (.int .u8 x3.toNat) := (by have h := sl_byte hs hx3; simpa only [Nat.add_assoc, Nat.reduceAdd] using h)
  obtain ⟨x4, hx4⟩ : ∃ y, l[4]? = some y := ⟨_, List.getElem?_eq_getElem (by omega)⟩
  have lx4 := UInt8.toNat_lt x4
  have dx4 : w.cell? ⟨b, o + 1 + 3, none⟩ = some (.int .u8 x4.toNat) := (by have h := sl_byte hs hx4; simpa only [Nat.add_assoc, Nat.reduceAdd] using h)
  obtain ⟨x5, hx5⟩ : ∃ y, l[5]? = some y := ⟨_, List.getElem?_eq_getElem (by omega)⟩
  have lx5 := UInt8.toNat_lt x5
  have dx5 : w.cell? ⟨b, o + 1 + 4, none⟩ = some (.int .u8 x5.toNat) := (by have h := sl_byte hs hx5; simpa only [Nat.add_assoc, Nat.reduceAdd] using h)
  obtain ⟨x6, hx6⟩ : ∃ y, l[6]? = some y := ⟨_, List.getElem?_eq_getElem (by omega)⟩
  have lx6 := UInt8.toNat_lt x6
  have dx6 : w.cell? ⟨b, o + 1 + 4 + 1, none⟩ = some (.int .u8 x6.toNat) := (by have h := sl_byte hs hx6; simpa only [Nat.add_assoc, Nat.reduceAdd] using h)
  have HF := Lib.hid (firstOk_chk hx (by have : askLen (x.toNat : Int) = 7 := by rw [hk]; rfl
                                         omega))
  have HP : plainAsk l = ⟨4, 0, 0, 0, 0, ((((x1.toNat : Int)) * 256 + (x2.toNat : Int)) * 256 + (x3.toNat : Int)) * 256 + (x4.toNat : Int) - 1073741824, ((x5.toNat : Int)) * 256 + (x6.toNat : Int)⟩ := by rw [plainAsk_move hx hk, valAt4 hx1 hx2 hx3 hx4, valAt2 hx5 hx6]
  have HP := Lib.hid HP
  have hcap := hs.cap
  have c1 : ¬ c = 1 := by omega
  have z0 : ((l.length : Int) == 0) = false := by rw [beq_eq_false_iff_ne]; omega
  clear hk hx hx1 hx2 hx3 hx4 hx5 hx6
  have f1 : (1 : Int) ≤ (l.length : Int) := by omega
  have f2 : 0 < l.length := by omega
  have qx1 := or_zero x1.toNat (by omega)
  have qx2 := or_byte ((x1.toNat : Int)) x2.toNat (by omega) (by omega) (by omega)
  have qx3 := or_byte (((x1.toNat : Int)) * 256 + (x2.toNat : Int)) x3.toNat (by omega) (by omega) (by omega)
  have qx4 := or_byte ((((x1.toNat : Int)) * 256 + (x2.toNat : Int)) * 256 + (x3.toNat : Int)) x4.toNat (by omega) (by omega) (by omega)
  have wrx1 := IntWalk.i64_in (((((x1.toNat : Int)) * 256 + (x2.toNat : Int)) * 256 + (x3.toNat : Int)) * 256 + (x4.toNat : Int) - 1073741824) (by omega)
  have fax1 : (4 : Int) ≤ (l.length : Int) - 1 := by omega
  have fbx1 : (4 : Int) ≤ (c : Int) - 1 := by omega
  have fcx1 : 4 ≤ c - 1 := by omega
  have fdx1 : 4 ≤ l.length - 1 := by omega
  have fex1 : ¬ c - 1 = 4 := by omega
  have qx5 := or_zero x5.toNat (by omega)
  have qx6 := or_byte ((x5.toNat : Int)) x6.toNat (by omega) (by omega) (by omega)
  have wrx5 := IntWalk.i64_in (((x5.toNat : Int)) * 256 + (x6.toNat : Int)) (by omega)
  have fax5 : (2 : Int) ≤ (l.length : Int) - 5 := by omega
  have fbx5 : (2 : Int) ≤ (c : Int) - 5 := by omega
  have fcx5 : 2 ≤ c - 1 - 4 := by omega
  have fdx5 : 2 ≤ l.length - 1 - 4 := by omega
  go_enter Try.func32, Try.ntmps32
  go_wp2
  refine RegC.wp_scope_passes 0 4 rfl ?_
  go_wp2_with (go_at_call 33; refine (size_move _).mono ?_; rintro e _ ⟨rfl, nx, rfl⟩)
  go_region_held3 (fun w' => w'.cell? ⟨b, o, none⟩ = some (.int .u8 4)) (simp [go_sem, *]) ((go_at_call 29; refine (fields_exact _).mono ?_; rintro e _ ⟨rfl, rfl⟩))
  go_wp2
  go_step3
  go_wp2
  refine wp_loop_rounds 5 ?_
  rw [rounds_succ]
  go_wp2
  rw [rounds_succ]
  go_wp2
  rw [rounds_succ]
  go_wp2
  rw [rounds_succ]
  go_wp2
  rw [rounds_succ]
  go_wp2
  go_region_held3 (fun w' => w'.cell? ⟨w.heap.size + 1 + nx.len + 1 + 3, 0, none⟩ = some (.int .i64 4) ∧ w'.cell? ⟨w.heap.size + 1 + nx.len + 1 + 3, 2, none⟩ = some (.int .i64 1073741824)) (simp [go_sem, *]) ((go_at_call 39; refine (set_4 _ _ (.int .i64 0) _ (by omega) (by simp [go_sem]) (by simp [go_sem])).mono ?_; rintro e _ ⟨rfl, rfl⟩))
  go_wp2
  ((first | refine RegC.wp_region_ext1 (by kernel_rfl) (by kernel_rfl) ?_ | refine RegC.wp_region_ext0 (by kernel_rfl) (by kernel_rfl) ?_); (repeat (any_goals (first | go_big_quiet_step (fail) | (refine RegC.wpQuiet_split rfl rfl (fun hb => ?_) (fun hb => ?_) <;> simp only [hb])))); all_goals (refine wpQuiet_nil ?_; rintro _ ⟨nq, rfl⟩))
  go_wp2
  go_step3
  refine ⟨rfl, ?_⟩
  rw [RegC.passes_succ]
  go_wp2
  refine wp_loop_rounds 3 ?_
  rw [rounds_succ]
  go_wp2
  rw [rounds_succ]
  go_wp2
  rw [rounds_succ]
  go_wp2
  go_region_held3 (fun w' => w'.cell? ⟨w.heap.size + 1 + nx.len + 1 + 3, 3, none⟩ = some (.int .i64 5) ∧ w'.cell? ⟨w.heap.size + 1 + nx.len + 1 + 3, 5, none⟩ = some (.int .i64 0)) (simp [go_sem, *]) ((go_at_call 39; refine (set_5 _ _ (.int .i64 0) _ (by omega) (by simp [go_sem]) (by simp [go_sem])).mono ?_; rintro e _ ⟨rfl, rfl⟩))
  go_wp2
  ((first | refine RegC.wp_region_ext1 (by kernel_rfl) (by kernel_rfl) ?_ | refine RegC.wp_region_ext0 (by kernel_rfl) (by kernel_rfl) ?_); (repeat (any_goals (first | go_big_quiet_step (fail) | (refine RegC.wpQuiet_split rfl rfl (fun hb => ?_) (fun hb => ?_) <;> simp only [hb])))); all_goals (refine wpQuiet_nil ?_; rintro _ ⟨nq, rfl⟩))
  all_goals go_wp2
  all_goals (
    go_step3
    refine ⟨rfl, ?_⟩
    rw [RegC.passes_succ]
    go_wp2
    rcases askChk_cases (4) (0) (0) (0) (0) (((((x1.toNat : Int)) * 256 + (x2.toNat : Int)) * 256 + (x3.toNat : Int)) * 256 + (x4.toNat : Int) - 1073741824) (((x5.toNat : Int)) * 256 + (x6.toNat : Int)) with e0 | e0
    · go_region_held3 (fun w' => w'.cell? ⟨w.heap.size + 1 + nx.len, 0, none⟩ = some (.int .u8 (4)) ∧ w'.cell? ⟨w.heap.size + 1 + nx.len, 1, none⟩ = some (.int .i64 (0)) ∧ w'.cell? ⟨w.heap.size + 1 + nx.len, 2, none⟩ = some (.int .i64 (0)) ∧ w'.cell? ⟨w.heap.size + 1 + nx.len, 3, none⟩ = some (.int .i64 (0)) ∧ w'.cell? ⟨w.heap.size + 1 + nx.len, 4, none⟩ = some (.int .i64 (0)) ∧ w'.cell? ⟨w.heap.size + 1 + nx.len, 5, none⟩ = some (.int .i64 (((((x1.toNat : Int)) * 256 + (x2.toNat : Int)) * 256 + (x3.toNat : Int)) * 256 + (x4.toNat : Int) - 1073741824)) ∧ w'.cell? ⟨w.heap.size + 1 + nx.len, 6, none⟩ = some (.int .i64 (((x5.toNat : Int)) * 256 + (x6.toNat : Int)))) (simp [go_sem]) ((go_at_call 14; refine (e0 ▸ decCheck_any _ _ _ _ _ _ _ _ (by omega) (by omega)).mono ?_; rintro e _ ⟨rfl, nx, rfl⟩))
      go_wp2
      simp only [Exit.jump]
      exact bodyPost_ret (v := .tuple #[.agg #[.int .u8 (4), .int .i64 (0), .int .i64 (0), .int .i64 (0), .int .i64 (0), .int .i64 (((((x1.toNat : Int)) * 256 + (x2.toNat : Int)) * 256 + (x3.toNat : Int)) * 256 + (x4.toNat : Int) - 1073741824), .int .i64 (((x5.toNat : Int)) * 256 + (x6.toNat : Int))], .bool true]) (by simp [results, Try.results32, go_sem]) rfl (scanPost_ok HF.out HP.out e0 (by (try simp only [ext_ext]); repeat (first | exact Bel.refl _ | assumption | refine bel_and ?_ _ | refine bel_drews ?_ _ | refine Bel.ext ?_ _ | refine Bel.alloc ?_ _ | refine Bel.drewN ?_ _)))
    · go_region_held3 (fun w' => w'.cell? ⟨w.heap.size + 1 + nx.len, 0, none⟩ = some (.int .u8 (4)) ∧ w'.cell? ⟨w.heap.size + 1 + nx.len, 1, none⟩ = some (.int .i64 (0)) ∧ w'.cell? ⟨w.heap.size + 1 + nx.len, 2, none⟩ = some (.int .i64 (0)) ∧ w'.cell? ⟨w.heap.size + 1 + nx.len, 3, none⟩ = some (.int .i64 (0)) ∧ w'.cell? ⟨w.heap.size + 1 + nx.len, 4, none⟩ = some (.int .i64 (0)) ∧ w'.cell? ⟨w.heap.size + 1 + nx.len, 5, none⟩ = some (.int .i64 (((((x1.toNat : Int)) * 256 + (x2.toNat : Int)) * 256 + (x3.toNat : Int)) * 256 + (x4.toNat : Int) - 1073741824)) ∧ w'.cell? ⟨w.heap.size + 1 + nx.len, 6, none⟩ = some (.int .i64 (((x5.toNat : Int)) * 256 + (x6.toNat : Int)))) (simp [go_sem]) ((go_at_call 14; refine (e0 ▸ decCheck_any _ _ _ _ _ _ _ _ (by omega) (by omega)).mono ?_; rintro e _ ⟨rfl, nx, rfl⟩))
      go_wp2
      simp only [Exit.jump]
      exact bodyPost_ret (v := .tuple #[.agg #[.int .u8 (4), .int .i64 (0), .int .i64 (0), .int .i64 (0), .int .i64 (0), .int .i64 (((((x1.toNat : Int)) * 256 + (x2.toNat : Int)) * 256 + (x3.toNat : Int)) * 256 + (x4.toNat : Int) - 1073741824), .int .i64 (((x5.toNat : Int)) * 256 + (x6.toNat : Int))], .bool false]) (by simp [results, Try.results32, go_sem]) rfl (scanPost_bad HF.out HP.out e0 (by (try simp only [ext_ext]); repeat (first | exact Bel.refl _ | assumption | refine bel_and ?_ _ | refine bel_drews ?_ _ | refine Bel.ext ?_ _ | refine Bel.alloc ?_ _ | refine Bel.drewN ?_ _))))
end Go.Proofs.Ytijinelgbiombaa
