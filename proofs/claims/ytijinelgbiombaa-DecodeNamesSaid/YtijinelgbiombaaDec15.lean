/- decode.scan on the bytes of a put. -/
import Derived.Test.YtijinelgbiombaaDec12
set_option linter.unusedSimpArgs false
set_option linter.unusedVariables false
namespace Go.Proofs.Ytijinelgbiombaa
open Go.RowKit Go.Pel
set_option maxRecDepth 10000 in
set_option maxHeartbeats 16000000 in
theorem scan_put1 (b o c : Nat) (l : List UInt8) (w : World) (hs : Sl w 1 (some ⟨b, o, none⟩) l.length c (vb l)) (hb : b < w.heap.size) (hl : l.length ≤ 1000000) (x : UInt8) (hx : l[0]? = some x) (hk : (x.toNat : Int) = 1) (hlen : 9 ≤ l.length) :
    Calls Try.prog 32 #[.slice (some ⟨b, o, none⟩) l.length c] w (ScanPost l w) := by
  have hb' := Nat.le_of_lt hb
  have hcell := sl_byte hs hx
  rw [Nat.add_zero, hk] at hcell
  obtain ⟨x1, hx1⟩ : ∃ y, l[1]? = some y := ⟨_, List.getElem?_eq_getElem (by omega)⟩
  have lx1 := UInt8.toNat_lt x1
  have dx1 : w.cell? ⟨b, o + 1, none⟩ = some (.int .u8 x1.toNat) := (by have h := sl_byte hs hx1; simpa only [Nat.add_assoc, Nat.reduceAdd] using h)
  obtain ⟨x2, hx2⟩ : ∃ y, l[2]? = some y := ⟨_, List.getElem?_eq_getElem (by omega)⟩
  have lx2 := UInt8.toNat_lt x2
  have dx2 : w.cell? ⟨b, o + 1 + 1, none⟩ = some (.int .u8 x2.toNat) := (by have h := sl_byte hs hx2; simpa only [Nat.add_assoc, Nat.reduceAdd] using h)
  obtain ⟨x3, hx3⟩ : ∃ y, l[3]? = some y := ⟨_, List.getElem?_eq_getElem (by omega)⟩
  have lx3 := UInt8.toNat_lt x3
  have dx3 : w.cell? ⟨b, o + 1 + 2, none⟩ = some (.int .u8 x3.toNat) := (by have h := sl_byte hs hx3; simpa only [Nat.add_assoc, Nat.reduceAdd] using h)
  obtain ⟨x4, hx4⟩ : ∃ y, l[4]? = some y := ⟨_, List.getElem?_eq_getElem (by omega)⟩
  have lx4 := UInt8.toNat_lt x4
  have dx4 : w.cell? ⟨b, o + 1 + 2 + 1, none⟩ = some (.int .u8 x4.toNat) := (by have h := sl_byte hs hx4; simpa only [Nat.add_assoc, Nat.reduceAdd] using h)
  obtain ⟨x5, hx5⟩ : ∃ y, l[5]? = some y := ⟨_, List.getElem?_eq_getElem (by omega)⟩
  have lx5 := UInt8.toNat_lt x5
  have dx5 : w.cell? ⟨b, o + 1 + 2 + 2, none⟩ = some (.int .u8 x5.toNat) := (by have h := sl_byte hs hx5; simpa only [Nat.add_assoc, Nat.reduceAdd] using h)
  obtain ⟨x6, hx6⟩ : ∃ y, l[6]? = some y := ⟨_, List.getElem?_eq_getElem (by omega)⟩
  have lx6 := UInt8.toNat_lt x6
  have dx6 : w.cell? ⟨b, o + 1 + 2 + 3, none⟩ = some (.int .u8 x6.toNat) := (by have h := sl_byte hs hx6; simpa only [Nat.add_assoc, Nat.reduceAdd] using h)
  obtain ⟨x7, hx7⟩ : ∃ y, l[7]? = some y := ⟨_, List.getElem?_eq_getElem (by omega)⟩
  have lx7 := UInt8.toNat_lt x7
  have dx7 : w.cell? ⟨b, o + 1 + 2 + 3 + 1, none⟩ = some (.int .u8 x7.toNat) := (by have h := sl_byte hs hx7; simpa only [Nat.add_assoc, Nat.reduceAdd] using h)
  obtain ⟨x8, hx8⟩ : ∃ y, l[8]? = some y := ⟨_, List.getElem?_eq_getElem (by omega)⟩
  have lx8 := UInt8.toNat_lt x8
  have dx8 : w.cell? ⟨b, o + 1 + 2 + 3 + 2, none⟩ = some (.int .u8 x8.toNat) := (by have h := sl_byte hs hx8; simpa only [Nat.add_assoc, Nat.reduceAdd] using h)
  have HF := Lib.hid (firstOk_chk hx (by have : askLen (x.toNat : Int) = 9 := by rw [hk]; rfl
                                         omega))
  have HP : plainAsk l = ⟨1, ((x1.toNat : Int)) * 256 + (x2.toNat : Int), (((x3.toNat : Int)) * 256 + (x4.toNat : Int)) * 256 + (x5.toNat : Int) - 1048576, (((x6.toNat : Int)) * 256 + (x7.toNat : Int)) * 256 + (x8.toNat : Int) - 1048576, 0, 0, 0⟩ := by rw [plainAsk_put hx (.inl hk), hk, valAt2 hx1 hx2, valAt3 hx3 hx4 hx5, valAt3 hx6 hx7 hx8]
  have HP := Lib.hid HP
  have hcap := hs.cap
  have c1 : ¬ c = 1 := by omega
  have z0 : ((l.length : Int) == 0) = false := by rw [beq_eq_false_iff_ne]; omega
  clear hk hx hx1 hx2 hx3 hx4 hx5 hx6 hx7 hx8
  have f1 : (1 : Int) ≤ (l.length : Int) := by omega
  have f2 : 0 < l.length := by omega
  have qx1 := or_zero x1.toNat (by omega)
  have qx2 := or_byte ((x1.toNat : Int)) x2.toNat (by omega) (by omega) (by omega)
  have wrx1 := IntWalk.i64_in (((x1.toNat : Int)) * 256 + (x2.toNat : Int)) (by omega)
  have fax1 : (2 : Int) ≤ (l.length : Int) - 1 := by omega
  have fbx1 : (2 : Int) ≤ (c : Int) - 1 := by omega
  have fcx1 : 2 ≤ c - 1 := by omega
  have fdx1 : 2 ≤ l.length - 1 := by omega
  have fex1 : ¬ c - 1 = 2 := by omega
  have qx3 := or_zero x3.toNat (by omega)
  have qx4 := or_byte ((x3.toNat : Int)) x4.toNat (by omega) (by omega) (by omega)
  have qx5 := or_byte (((x3.toNat : Int)) * 256 + (x4.toNat : Int)) x5.toNat (by omega) (by omega) (by omega)
  have wrx3 := IntWalk.i64_in ((((x3.toNat : Int)) * 256 + (x4.toNat : Int)) * 256 + (x5.toNat : Int) - 1048576) (by omega)
  have fax3 : (3 : Int) ≤ (l.length : Int) - 3 := by omega
  have fbx3 : (3 : Int) ≤ (c : Int) - 3 := by omega
  have fcx3 : 3 ≤ c - 1 - 2 := by omega
  have fdx3 : 3 ≤ l.length - 1 - 2 := by omega
  have fex3 : ¬ c - 1 - 2 = 3 := by omega
  have qx6 := or_zero x6.toNat (by omega)
  have qx7 := or_byte ((x6.toNat : Int)) x7.toNat (by omega) (by omega) (by omega)
  have qx8 := or_byte (((x6.toNat : Int)) * 256 + (x7.toNat : Int)) x8.toNat (by omega) (by omega) (by omega)
  have wrx6 := IntWalk.i64_in ((((x6.toNat : Int)) * 256 + (x7.toNat : Int)) * 256 + (x8.toNat : Int) - 1048576) (by omega)
  have fax6 : (3 : Int) ≤ (l.length : Int) - 6 := by omega
  have fbx6 : (3 : Int) ≤ (c : Int) - 6 := by omega
  have fcx6 : 3 ≤ c - 1 - 2 - 3 := by omega
  have fdx6 : 3 ≤ l.length - 1 - 2 - 3 := by omega
  go_enter Try.func32, Try.ntmps32
  go_wp2
  refine RegC.wp_scope_passes 0 4 rfl ?_
  go_wp2_with (go_at_call 33; refine (size_put 1 _ (by omega)).mono ?_; rintro e _ ⟨rfl, nx, rfl⟩)
  go_region_held3 (fun w' => w'.cell? ⟨b, o, none⟩ = some (.int .u8 1)) (simp [go_sem, *]) ((go_at_call 29; refine (fields_exact _).mono ?_; rintro e _ ⟨rfl, rfl⟩))
  go_wp2
  go_step3
  go_wp2
  refine wp_loop_rounds 3 ?_
  rw [rounds_succ]
  go_wp2
  rw [rounds_succ]
  go_wp2
  rw [rounds_succ]
  go_wp2
  go_region_held3 (fun w' => w'.cell? ⟨w.heap.size + 1 + nx.len + 1 + 1, 0, none⟩ = some (.int .i64 1) ∧ w'.cell? ⟨w.heap.size + 1 + nx.len + 1 + 1, 2, none⟩ = some (.int .i64 0)) (simp [go_sem, *]) ((go_at_call 39; refine (set_1 _ _ (.int .i64 0) _ (by omega) (by simp [go_sem]) (by simp [go_sem])).mono ?_; rintro e _ ⟨rfl, rfl⟩))
  go_wp2
  ((first | refine RegC.wp_region_ext1 (by kernel_rfl) (by kernel_rfl) ?_ | refine RegC.wp_region_ext0 (by kernel_rfl) (by kernel_rfl) ?_); (repeat (any_goals (first | go_big_quiet_step (fail) | (refine RegC.wpQuiet_split rfl rfl (fun hb => ?_) (fun hb => ?_) <;> simp only [hb])))); all_goals (refine wpQuiet_nil ?_; rintro _ ⟨nq, rfl⟩))
  go_wp2
  go_step3
  refine ⟨rfl, ?_⟩
  rw [RegC.passes_succ]
  go_wp2
  refine wp_loop_rounds 4 ?_
  rw [rounds_succ]
  go_wp2
  rw [rounds_succ]
  go_wp2
  rw [rounds_succ]
  go_wp2
  rw [rounds_succ]
  go_wp2
  go_region_held3 (fun w' => w'.cell? ⟨w.heap.size + 1 + nx.len + 1 + 1, 3, none⟩ = some (.int .i64 2) ∧ w'.cell? ⟨w.heap.size + 1 + nx.len + 1 + 1, 5, none⟩ = some (.int .i64 1048576)) (simp [go_sem, *]) ((go_at_call 39; refine (set_2 _ _ (.int .i64 0) _ (by omega) (by simp [go_sem]) (by simp [go_sem])).mono ?_; rintro e _ ⟨rfl, rfl⟩))
  go_wp2
  ((first | refine RegC.wp_region_ext1 (by kernel_rfl) (by kernel_rfl) ?_ | refine RegC.wp_region_ext0 (by kernel_rfl) (by kernel_rfl) ?_); (repeat (any_goals (first | go_big_quiet_step (fail) | (refine RegC.wpQuiet_split rfl rfl (fun hb => ?_) (fun hb => ?_) <;> simp only [hb])))); all_goals (refine wpQuiet_nil ?_; rintro _ ⟨nq, rfl⟩))
  go_wp2
  go_step3
  refine ⟨rfl, ?_⟩
  rw [RegC.passes_succ]
  go_wp2
  refine wp_loop_rounds 4 ?_
  rw [rounds_succ]
  go_wp2
  rw [rounds_succ]
  go_wp2
  rw [rounds_succ]
  go_wp2
  rw [rounds_succ]
  go_wp2
  go_region_held3 (fun w' => w'.cell? ⟨w.heap.size + 1 + nx.len + 1 + 1, 6, none⟩ = some (.int .i64 3) ∧ w'.cell? ⟨w.heap.size + 1 + nx.len + 1 + 1, 8, none⟩ = some (.int .i64 1048576)) (simp [go_sem, *]) ((go_at_call 39; refine (set_3 _ _ (.int .i64 0) _ (by omega) (by simp [go_sem]) (by simp [go_sem])).mono ?_; rintro e _ ⟨rfl, rfl⟩))
  go_wp2
  ((first | refine RegC.wp_region_ext1 (by kernel_rfl) (by kernel_rfl) ?_ | refine RegC.wp_region_ext0 (by kernel_rfl) (by kernel_rfl) ?_); (repeat (any_goals (first | go_big_quiet_step (fail) | (refine RegC.wpQuiet_split rfl rfl (fun hb => ?_) (fun hb => ?_) <;> simp only [hb])))); all_goals (refine wpQuiet_nil ?_; rintro _ ⟨nq, rfl⟩))
  all_goals go_wp2
  all_goals (
    go_step3
    refine ⟨rfl, ?_⟩
    rw [RegC.passes_succ]
    go_wp2
    rcases askChk_cases (1) (((x1.toNat : Int)) * 256 + (x2.toNat : Int)) ((((x3.toNat : Int)) * 256 + (x4.toNat : Int)) * 256 + (x5.toNat : Int) - 1048576) ((((x6.toNat : Int)) * 256 + (x7.toNat : Int)) * 256 + (x8.toNat : Int) - 1048576) (0) (0) (0) with e0 | e0
    · go_region_held3 (fun w' => w'.cell? ⟨w.heap.size + 1 + nx.len, 0, none⟩ = some (.int .u8 (1)) ∧ w'.cell? ⟨w.heap.size + 1 + nx.len, 1, none⟩ = some (.int .i64 (((x1.toNat : Int)) * 256 + (x2.toNat : Int))) ∧ w'.cell? ⟨w.heap.size + 1 + nx.len, 2, none⟩ = some (.int .i64 ((((x3.toNat : Int)) * 256 + (x4.toNat : Int)) * 256 + (x5.toNat : Int) - 1048576)) ∧ w'.cell? ⟨w.heap.size + 1 + nx.len, 3, none⟩ = some (.int .i64 ((((x6.toNat : Int)) * 256 + (x7.toNat : Int)) * 256 + (x8.toNat : Int) - 1048576)) ∧ w'.cell? ⟨w.heap.size + 1 + nx.len, 4, none⟩ = some (.int .i64 (0)) ∧ w'.cell? ⟨w.heap.size + 1 + nx.len, 5, none⟩ = some (.int .i64 (0)) ∧ w'.cell? ⟨w.heap.size + 1 + nx.len, 6, none⟩ = some (.int .i64 (0))) (simp [go_sem]) ((go_at_call 14; refine (e0 ▸ decCheck_any _ _ _ _ _ _ _ _ (by omega) (by omega)).mono ?_; rintro e _ ⟨rfl, nx, rfl⟩))
      go_wp2
      simp only [Exit.jump]
      exact bodyPost_ret (v := .tuple #[.agg #[.int .u8 (1), .int .i64 (((x1.toNat : Int)) * 256 + (x2.toNat : Int)), .int .i64 ((((x3.toNat : Int)) * 256 + (x4.toNat : Int)) * 256 + (x5.toNat : Int) - 1048576), .int .i64 ((((x6.toNat : Int)) * 256 + (x7.toNat : Int)) * 256 + (x8.toNat : Int) - 1048576), .int .i64 (0), .int .i64 (0), .int .i64 (0)], .bool true]) (by simp [results, Try.results32, go_sem]) rfl (scanPost_ok HF.out HP.out e0 (by (try simp only [ext_ext]); repeat (first | exact Bel.refl _ | assumption | refine bel_and ?_ _ | refine bel_drews ?_ _ | refine Bel.ext ?_ _ | refine Bel.alloc ?_ _ | refine Bel.drewN ?_ _)))
    · go_region_held3 (fun w' => w'.cell? ⟨w.heap.size + 1 + nx.len, 0, none⟩ = some (.int .u8 (1)) ∧ w'.cell? ⟨w.heap.size + 1 + nx.len, 1, none⟩ = some (.int .i64 (((x1.toNat : Int)) * 256 + (x2.toNat : Int))) ∧ w'.cell? ⟨w.heap.size + 1 + nx.len, 2, none⟩ = some (.int .i64 ((((x3.toNat : Int)) * 256 + (x4.toNat : Int)) * 256 + (x5.toNat : Int) - 1048576)) ∧ w'.cell? ⟨w.heap.size + 1 + nx.len, 3, none⟩ = some (.int .i64 ((((x6.toNat : Int)) * 256 + (x7.toNat : Int)) * 256 + (x8.toNat : Int) - 1048576)) ∧ w'.cell? ⟨w.heap.size + 1 + nx.len, 4, none⟩ = some (.int .i64 (0)) ∧ w'.cell? ⟨w.heap.size + 1 + nx.len, 5, none⟩ = some (.int .i64 (0)) ∧ w'.cell? ⟨w.heap.size + 1 + nx.len, 6, none⟩ = some (.int .i64 (0))) (simp [go_sem]) ((go_at_call 14; refine (e0 ▸ decCheck_any _ _ _ _ _ _ _ _ (by omega) (by omega)).mono ?_; rintro e _ ⟨rfl, nx, rfl⟩))
      go_wp2
      simp only [Exit.jump]
      exact bodyPost_ret (v := .tuple #[.agg #[.int .u8 (1), .int .i64 (((x1.toNat : Int)) * 256 + (x2.toNat : Int)), .int .i64 ((((x3.toNat : Int)) * 256 + (x4.toNat : Int)) * 256 + (x5.toNat : Int) - 1048576), .int .i64 ((((x6.toNat : Int)) * 256 + (x7.toNat : Int)) * 256 + (x8.toNat : Int) - 1048576), .int .i64 (0), .int .i64 (0), .int .i64 (0)], .bool false]) (by simp [results, Try.results32, go_sem]) rfl (scanPost_bad HF.out HP.out e0 (by (try simp only [ext_ext]); repeat (first | exact Bel.refl _ | assumption | refine bel_and ?_ _ | refine bel_drews ?_ _ | refine Bel.ext ?_ _ | refine Bel.alloc ?_ _ | refine Bel.drewN ?_ _))))
end Go.Proofs.Ytijinelgbiombaa
