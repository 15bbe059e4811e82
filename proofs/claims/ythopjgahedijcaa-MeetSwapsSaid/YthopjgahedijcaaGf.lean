/- Walks of the references; the orders agree; examples. -/
import Derived.Test.YthopjgahedijcaaRows
import Derived.ProofKit
import Derived.OpenShut
import Derived.ShutString
import Derived.ChangeOld
import Derived.Deep.Slices
import Derived.Test.YthopjgahedijcaaGe
set_option linter.unusedSimpArgs false
set_option linter.unusedVariables false
namespace Go.Pel
open Go Go.Tx
/-- a meeting is behind a time -/
def gtM (n dd : Int) (x : M4) : Bool := decide (0 < cmpQ x.1 x.2.1 n dd)
theorem gtM_iff (n dd : Int) (x : M4) : gtM n dd x = true ↔ n * x.2.1 < x.1 * dd := by
  unfold gtM cmpQ cmpZ
  rw [decide_eq_true_eq]
  repeat' split
  all_goals omega
theorem gtM_mono {n dd : Int} (hd : 1 ≤ dd) {L : List M4} (hL : ∀ x ∈ L, okM x) (hs : L.Pairwise fun a b => ltM b a = false) {i j : Nat} {x y : M4} (hij : i ≤ j) (hx : L[i]? = some x) (hy : L[j]? = some y) (h : gtM n dd x = true) : gtM n dd y = true := by
  rcases Nat.lt_or_eq_of_le hij with hlt | rfl
  · obtain ⟨hi, rfl⟩ := List.getElem?_eq_some_iff.1 hx
    obtain ⟨hj, rfl⟩ := List.getElem?_eq_some_iff.1 hy
    have hp := ltM_not _ _ ((List.pairwise_iff_getElem.1 hs) i j hi hj hlt)
    have o1 := (ratioChk_zero (hL _ (List.getElem_mem hi))).1
    have o2 := (ratioChk_zero (hL _ (List.getElem_mem hj))).1
    rw [gtM_iff] at h ⊢
    exact q_lt hd o1 o2 h (by omega)
  · rw [hx] at hy; injection hy with hy; subst hy; exact h
/-- how many meetings are not behind a time -/
def idxM (n dd : Int) (L : List M4) : Nat := L.findIdx (gtM n dd)
theorem idxM_only {n dd : Int} {L : List M4} {k : Nat} (hk : k ≤ L.length) (h1 : ∀ j x, j < k → L[j]? = some x → gtM n dd x = false) (h2 : ∀ x, L[k]? = some x → gtM n dd x = true) : idxM n dd L = k := by
  unfold idxM
  rcases Nat.lt_or_eq_of_le hk with hlt | rfl
  · rw [List.findIdx_eq hlt]
    refine ⟨h2 _ (List.getElem?_eq_getElem hlt), fun j hj => ?_⟩
    exact h1 j _ hj (List.getElem?_eq_getElem (by omega))
  · rw [List.findIdx_eq_length]
    intro x hx
    obtain ⟨j, hj, rfl⟩ := List.mem_iff_getElem.1 hx
    exact h1 j _ hj (List.getElem?_eq_getElem hj)
end Go.Pel
namespace Go.Proofs.Ythopjgahedijcaa
open Go Go.Tx Go.Pel
theorem behind1_eq (d : Nat) {x : M4} {n dd : Int} (hx : okW x) (hn : i64B n = true) (hd : i64B dd = true) (hr : ratioChk n dd = 0) : F_meet_behind_1 d ((x.1, x.2.1, x.2.2.1, x.2.2.2.1, ()), (n, dd, ()), ()) = some (if gtM n dd x = true then 1 else -1) := by
  have e1 : F_meet_later d ((x.1, x.2.1, ()), (n, dd, ()), ()) = some (cmpQ x.1 x.2.1 n dd) := by
    rw [later_eq d _ _ _ _ hx.b1 hx.b2 hn hd]; unfold cmpR; rw [if_pos ⟨hx.ok, hr⟩]
  simp only [F_meet_behind_1, meet_behind_1_K, meet_behind_1_r0, meet_behind_1_r1, meet_behind_1_r2, meet_behind_1_r3, Dt.eval, e1]
  unfold gtM
  by_cases h : 0 < cmpQ x.1 x.2.1 n dd
  · simp only [h, gt_iff_lt, decide_true, cond_true, if_true]
  · simp only [h, gt_iff_lt, decide_false, cond_false]
    rfl
abbrev bsX : Type := List Diiii × Int × Int × Int × Int × Int
theorem bs_loop (d : Nat) {L : List M4} {n dd : Int} (hL : ∀ x ∈ L, okW x) (hlen : L.length ≤ 4096) (hs : L.Pairwise fun a b => ltM b a = false) (hn : i64B n = true) (hd : i64B dd = true) (hr : ratioChk n dd = 0) : ∀ (f lo hi : Nat), hi - lo < f → lo ≤ hi → hi ≤ L.length → (∀ j x, j < lo → L[j]? = some x → gtM n dd x = false) → (∀ j x, hi ≤ j → L[j]? = some x → gtM n dd x = true) →
    ∃ b, iter (slices_BinarySearchFunc_api_Meeting_api_Meeting_api_Ratio_at_meet_behind_1_L1 d) f ((L, (L.length : Int), (lo : Int), (hi : Int), n, dd) : bsX) = some ((idxM n dd L : Int), b)
  | 0, lo, hi, h, _, _, _, _ => by omega
  | f + 1, lo, hi, h, hle, hhi, h1, h2 => by
    have hD := (ratioChk_zero hr).1
    rw [iter]
    have ih := bs_loop d hL hlen hs hn hd hr f
    revert ih
    generalize iter (slices_BinarySearchFunc_api_Meeting_api_Meeting_api_Ratio_at_meet_behind_1_L1 d) f = self
    intro ih
    unfold slices_BinarySearchFunc_api_Meeting_api_Meeting_api_Ratio_at_meet_behind_1_L1
    simp only [slices_BinarySearchFunc_api_Meeting_api_Meeting_api_Ratio_at_meet_behind_1_r3, slices_BinarySearchFunc_api_Meeting_api_Meeting_api_Ratio_at_meet_behind_1_r4, slices_BinarySearchFunc_api_Meeting_api_Meeting_api_Ratio_at_meet_behind_1_r5, slices_BinarySearchFunc_api_Meeting_api_Meeting_api_Ratio_at_meet_behind_1_r6, slices_BinarySearchFunc_api_Meeting_api_Meeting_api_Ratio_at_meet_behind_1_r7, slices_BinarySearchFunc_api_Meeting_api_Meeting_api_Ratio_at_meet_behind_1_r8, Dt.eval]
    by_cases hlt : lo < hi
    · have c1 : decide ((lo : Int) < (hi : Int)) = true := by rw [decide_eq_true_eq]; omega
      have wm : IntKind.wrap .i64 (shrI .u64 (IntKind.wrap .u64 (IntKind.wrap .i64 ((lo : Int) + (hi : Int)))) 1) = (((lo + hi) / 2 : Nat) : Int) := by
        rw [show IntKind.wrap .i64 ((lo : Int) + (hi : Int)) = (lo : Int) + (hi : Int) from IntWalk.i64_in _ (by omega), show IntKind.wrap .u64 ((lo : Int) + (hi : Int)) = ((lo + hi : Nat) : Int) by rw [IntKind.wrap_u64]; omega]
        have : shrI .u64 ((lo + hi : Nat) : Int) 1 = (((lo + hi) / 2 : Nat) : Int) := by
          unfold shrI
          rw [show (2 : Int) ^ (min (1 : Int).toNat IntKind.u64.bits) = 2 from by decide, Int.fdiv_eq_ediv_of_nonneg _ (by omega)]; omega
        rw [this]; exact IntWalk.i64_in _ (by omega)
      obtain ⟨m, hm⟩ : ∃ m, (lo + hi) / 2 = m := ⟨_, rfl⟩
      rw [hm] at wm
      have hml : m < L.length := by omega
      obtain ⟨x, hx⟩ : ∃ x, L[m]? = some x := ⟨_, List.getElem?_eq_getElem hml⟩
      have hxw := hL x (List.mem_of_getElem? hx)
      have ib : inB (m : Int) L.length = true := inB_iff.2 ⟨by omega, by omega⟩
      have ee : elt ziiii L (m : Int).toNat = x := by unfold elt; rw [Int.toNat_natCast, hx]; rfl
      have e1 := behind1_eq d hxw hn hd hr
      cases hg : gtM n dd x with
      | true =>
        rw [hg, if_pos rfl] at e1
        simp only [c1, cond_true, wm, ib, ee, slices_BinarySearchFunc_api_Meeting_api_Meeting_api_Ratio_at_meet_behind_1_K, e1, show decide ((1 : Int) < 0) = false from rfl, cond_false]
        exact ih lo m (by omega) (by omega) (by omega) h1 fun j y hj hy => gtM_mono hD (fun x hx => (hL x hx).ok) hs hj hx hy hg
      | false =>
        have wm1 : IntKind.wrap .i64 ((m : Int) + 1) = ((m + 1 : Nat) : Int) := by rw [IntWalk.i64_in _ (by omega)]; omega
        rw [hg, if_neg (by decide)] at e1
        simp only [c1, cond_true, wm, ib, ee, slices_BinarySearchFunc_api_Meeting_api_Meeting_api_Ratio_at_meet_behind_1_K, e1, show decide ((-1 : Int) < 0) = true from rfl, wm1, Dt.eval, cond_true]
        refine ih (m + 1) hi (by omega) (by omega) (by omega) (fun j y hj hy => ?_) h2
        cases hgy : gtM n dd y with
        | false => rfl
        | true => rw [gtM_mono hD (fun x hx => (hL x hx).ok) hs (show j ≤ m by omega) hy hx hgy] at hg; cases hg
    · obtain rfl : lo = hi := by omega
      have c1 : decide ((lo : Int) < (lo : Int)) = false := by rw [decide_eq_false_iff_not]; omega
      have hidx : idxM n dd L = lo := idxM_only hhi h1 fun x hx => h2 lo x (Nat.le_refl _) hx
      simp only [c1, cond_false]
      rw [hidx]
      by_cases hll : lo < L.length
      · have c2 : decide ((lo : Int) < (L.length : Int)) = true := by rw [decide_eq_true_eq]; omega
        obtain ⟨x, hx⟩ : ∃ x, L[lo]? = some x := ⟨_, List.getElem?_eq_getElem hll⟩
        have hxw := hL x (List.mem_of_getElem? hx)
        have ib : inB (lo : Int) L.length = true := inB_iff.2 ⟨by omega, by omega⟩
        have ee : elt ziiii L (lo : Int).toNat = x := by unfold elt; rw [Int.toNat_natCast, hx]; rfl
        have e1 := behind1_eq d hxw hn hd hr
        simp only [c2, cond_true, ib, ee, slices_BinarySearchFunc_api_Meeting_api_Meeting_api_Ratio_at_meet_behind_1_K, e1]
        exact ⟨_, rfl⟩
      · have c2 : decide ((lo : Int) < (L.length : Int)) = false := by rw [decide_eq_false_iff_not]; omega
        simp only [c2, cond_false]
        exact ⟨_, rfl⟩
theorem behind_eq (d : Nat) (hf : 5000 ≤ d) {L : List M4} {n dd : Int} (hL : ∀ x ∈ L, okW x) (hlen : L.length ≤ 4096) (hs : L.Pairwise fun a b => ltM b a = false) (hn : i64B n = true) (hd : i64B dd = true) (hr : ratioChk n dd = 0) : F_meet_behind d ((L, ()), (n, dd, ()), ()) = some (idxM n dd L : Int) := by
  obtain ⟨b, hb⟩ := bs_loop d hL hlen hs hn hd hr d 0 L.length (by omega) (by omega) (Nat.le_refl _) (fun j x hj => by omega) (fun j x hj hx => by have := (List.getElem?_eq_some_iff.1 hx).1; omega)
  have e1 : F_slices_BinarySearchFunc_api_Meeting_api_Meeting_api_Ratio_at_meet_behind_1 d ((L, ()), (n, dd, ()), (), ()) = some ((idxM n dd L : Int), b) := by
    simp only [F_slices_BinarySearchFunc_api_Meeting_api_Meeting_api_Ratio_at_meet_behind_1, slices_BinarySearchFunc_api_Meeting_api_Meeting_api_Ratio_at_meet_behind_1_K, slices_BinarySearchFunc_api_Meeting_api_Meeting_api_Ratio_at_meet_behind_1_r0, slices_BinarySearchFunc_api_Meeting_api_Meeting_api_Ratio_at_meet_behind_1_r1, slices_BinarySearchFunc_api_Meeting_api_Meeting_api_Ratio_at_meet_behind_1_r2, Dt.eval]
    exact hb
  simp only [F_meet_behind, meet_behind_K, meet_behind_r0, meet_behind_r1, meet_behind_r2, Dt.eval, e1]
/-- the check of a field and a time -/
def chk1 (l : List T3) (n dd : Int) : Int := if fieldChk (ptsL l) ≠ 0 then fieldChk (ptsL l) else ratioChk n dd
def chk2 (l : List T3) (n dd n' dd' : Int) : Int := if fieldChk (ptsL l) ≠ 0 then fieldChk (ptsL l) else if ratioChk n dd ≠ 0 then ratioChk n dd else if ratioChk n' dd' ≠ 0 then ratioChk n' dd' else if 0 < cmpQ n dd n' dd' then 2 else 0
theorem check0_eq (d : Nat) (hf : 5 ≤ d) (l : List T3) : F_meet_check d ((l, ()), ([], ()), ()) = some (fieldChk (ptsL l)) := by
  obtain ⟨n, rfl⟩ : ∃ n, d = n + 5 := ⟨d - 5, by omega⟩
  have e1 : F_field_Check (n + 5) ((l, ()), ()) = some (fieldChk (ptsL l)) := F_field_Check_eq _ _ rfl
  simp only [F_meet_check, meet_check_K, meet_check_r0, meet_check_r1, meet_check_r2, meet_check_r3, meet_check_r4, Dt.eval, e1]
  by_cases h : fieldChk (ptsL l) = 0
  · rw [h]
    simp [iter, meet_check_L1, meet_check_r5, meet_check_r6, meet_check_r7, meet_check_r8, meet_check_r9, meet_check_r10, meet_check_r11, meet_check_r12, meet_check_r13, Dt.eval]
  · have hb : (fieldChk (ptsL l) != 0) = true := by simpa using h
    simp only [hb, cond_true]
theorem check1_eq (d : Nat) (hf : 5 ≤ d) (l : List T3) (n dd : Int) (hn : i64B n = true) (hd : i64B dd = true) : F_meet_check d ((l, ()), ([(n, dd, ())], ()), ()) = some (chk1 l n dd) := by
  obtain ⟨k, rfl⟩ : ∃ k, d = k + 5 := ⟨d - 5, by omega⟩
  have e1 : F_field_Check (k + 5) ((l, ()), ()) = some (fieldChk (ptsL l)) := F_field_Check_eq _ _ rfl
  have e2 : F_ratio_Check (k + 5) ((n, dd, ()), ()) = some (ratioChk n dd) := F_ratio_Check_eq _ _ (by unfold ratio_Check_if; simp only [hn, hd, Bool.and_self])
  have w1 : IntKind.wrap .i64 (1 : Int) = 1 := by decide
  have b0 : inB 0 1 = true := by decide
  unfold chk1
  simp only [F_meet_check, meet_check_K, meet_check_r0, meet_check_r1, meet_check_r2, meet_check_r3, meet_check_r4, Dt.eval, e1]
  by_cases h : fieldChk (ptsL l) = 0
  · rw [h]
    by_cases h2 : ratioChk n dd = 0
    · simp [iter, meet_check_L1, meet_check_r5, meet_check_r6, meet_check_r7, meet_check_r8, meet_check_r9, meet_check_r10, meet_check_r11, meet_check_r12, meet_check_r13, Dt.eval, meet_check_K, e2, h2, w1, b0, elt]
    · simp [iter, meet_check_L1, meet_check_r5, meet_check_r6, meet_check_r7, meet_check_r8, meet_check_r9, meet_check_r10, meet_check_r11, meet_check_r12, meet_check_r13, Dt.eval, meet_check_K, e2, h2, w1, b0, elt, show (ratioChk n dd != 0) = true by simpa using h2]
  · have hb : (fieldChk (ptsL l) != 0) = true := by simpa using h
    simp only [hb, cond_true, ne_eq, h, not_false_eq_true, if_true]
theorem check2_eq (d : Nat) (hf : 5 ≤ d) (l : List T3) (n dd n' dd' : Int) (hn : i64B n = true) (hd : i64B dd = true) (hn' : i64B n' = true) (hd' : i64B dd' = true) : F_meet_check d ((l, ()), ([(n, dd, ()), (n', dd', ())], ()), ()) = some (chk2 l n dd n' dd') := by
  obtain ⟨k, rfl⟩ : ∃ k, d = k + 5 := ⟨d - 5, by omega⟩
  have e1 : F_field_Check (k + 5) ((l, ()), ()) = some (fieldChk (ptsL l)) := F_field_Check_eq _ _ rfl
  have e2 : F_ratio_Check (k + 5) ((n, dd, ()), ()) = some (ratioChk n dd) := F_ratio_Check_eq _ _ (by unfold ratio_Check_if; simp only [hn, hd, Bool.and_self])
  have e3 : F_ratio_Check (k + 5) ((n', dd', ()), ()) = some (ratioChk n' dd') := F_ratio_Check_eq _ _ (by unfold ratio_Check_if; simp only [hn', hd', Bool.and_self])
  have e4 := later_eq (k + 5) n dd n' dd' hn hd hn' hd'
  have w1 : IntKind.wrap .i64 (1 : Int) = 1 := by decide
  have w2 : IntKind.wrap .i64 (2 : Int) = 2 := by decide
  have b0 : inB 0 2 = true := by decide
  have b1 : inB 1 2 = true := by decide
  unfold chk2
  simp only [F_meet_check, meet_check_K, meet_check_r0, meet_check_r1, meet_check_r2, meet_check_r3, meet_check_r4, Dt.eval, e1]
  by_cases h : fieldChk (ptsL l) = 0
  · rw [h]
    by_cases h2 : ratioChk n dd = 0
    · by_cases h3 : ratioChk n' dd' = 0
      · unfold cmpR at e4
        rw [if_pos ⟨h2, h3⟩] at e4
        by_cases h4 : 0 < cmpQ n dd n' dd'
        · simp [iter, meet_check_L1, meet_check_r5, meet_check_r6, meet_check_r7, meet_check_r8, meet_check_r9, meet_check_r10, meet_check_r11, meet_check_r12, meet_check_r13, Dt.eval, meet_check_K, e2, e3, e4, h2, h3, h4, w1, w2, b0, b1, elt]
        · simp [iter, meet_check_L1, meet_check_r5, meet_check_r6, meet_check_r7, meet_check_r8, meet_check_r9, meet_check_r10, meet_check_r11, meet_check_r12, meet_check_r13, Dt.eval, meet_check_K, e2, e3, e4, h2, h3, h4, w1, w2, b0, b1, elt]
      · simp [iter, meet_check_L1, meet_check_r5, meet_check_r6, meet_check_r7, meet_check_r8, meet_check_r9, meet_check_r10, meet_check_r11, meet_check_r12, meet_check_r13, Dt.eval, meet_check_K, e2, e3, h2, h3, w1, w2, b0, b1, elt, show (ratioChk n' dd' != 0) = true by simpa using h3]
    · simp [iter, meet_check_L1, meet_check_r5, meet_check_r6, meet_check_r7, meet_check_r8, meet_check_r9, meet_check_r10, meet_check_r11, meet_check_r12, meet_check_r13, Dt.eval, meet_check_K, e2, h2, w1, b0, elt, show (ratioChk n dd != 0) = true by simpa using h2]
  · have hb : (fieldChk (ptsL l) != 0) = true := by simpa using h
    simp only [hb, cond_true, ne_eq, h, not_false_eq_true, if_true]
theorem fldOk_of {l : List T3} (h : fieldChk (ptsL l) = 0) : FldOk l := by
  obtain ⟨h1, h2, h3⟩ := fieldChk_zero h
  rw [ptsL_len] at h1
  refine ⟨h1, fun p hp => h2 _ (List.mem_map_of_mem hp), ?_⟩
  rw [List.pairwise_iff_getElem]
  intro i j hi hj hij
  have hg : ∀ k (hk : k < l.length), (ptsL l)[k]? = some (ofP l[k]) := fun k hk => by unfold ptsL; rw [List.getElem?_map, List.getElem?_eq_getElem hk]; rfl
  exact inc_lt h3 hij (hg i hi) (hg j hj)
theorem allM_w {l : List T3} (h : FldOk l) : ∀ x ∈ allM l, okW x := fun x hx => ⟨(allM_ok h hx).1, (allM_ok h hx).2.1, (allM_ok h hx).2.2⟩
/-- meet.Next -/
def nextV (l : List T3) (n dd : Int) : Int × Int × Int × Int × Int := if chk1 l n dd ≠ 0 then (0, 0, 0, 0, chk1 l n dd) else match (allM l)[idxM n dd (allM l)]? with
  | some x => (x.1, x.2.1, x.2.2.1, x.2.2.2.1, 0)
  | none => (0, 0, 0, 0, 6)
/-- meet.Last -/
def lastV (l : List T3) : Int × Int × Int := if fieldChk (ptsL l) ≠ 0 then (0, 0, fieldChk (ptsL l)) else match (allM l)[(allM l).length - 1]? with
  | some x => (x.1, x.2.1, 0)
  | none => (0, 0, 6)
theorem last_eq (d : Nat) (hf : 5000 ≤ d) (l : List T3) : F_meet_Last d ((l, ()), ()) = some (lastV l) := by
  have e1 := check0_eq d (by omega) l
  unfold lastV
  simp only [F_meet_Last, meet_Last_K, meet_Last_r0, meet_Last_r1, meet_Last_r2, meet_Last_r3, meet_Last_r4, meet_Last_r5, meet_Last_r6, meet_Last_r7, Dt.eval, e1]
  by_cases h : fieldChk (ptsL l) = 0
  · have hok := fldOk_of h
    have e2 := all_eq d (by omega) hok
    have hlen := allM_len hok
    simp only [h, show ((0 : Int) != 0) = false from rfl, cond_false, Dt.eval, e2, ne_eq, not_true_eq_false, if_false]
    rcases Nat.eq_zero_or_pos (allM l).length with h0 | h0
    · have c1 : (((allM l).length : Int) == 0) = true := by rw [beq_iff_eq]; omega
      have hx : (allM l)[(allM l).length - 1]? = none := List.getElem?_eq_none (by omega)
      simp only [c1, cond_true, hx]
    · have c1 : (((allM l).length : Int) == 0) = false := by rw [beq_eq_false_iff_ne]; omega
      have w1 : IntKind.wrap .i64 (((allM l).length : Int) - 1) = (((allM l).length - 1 : Nat) : Int) := by rw [IntWalk.i64_in _ (by omega)]; omega
      obtain ⟨x, hx⟩ : ∃ x, (allM l)[(allM l).length - 1]? = some x := ⟨_, List.getElem?_eq_getElem (by omega)⟩
      have ib : inB (((allM l).length - 1 : Nat) : Int) (allM l).length = true := inB_iff.2 ⟨by omega, by omega⟩
      have ee : elt ziiii (allM l) (((allM l).length - 1 : Nat) : Int).toNat = x := by unfold elt; rw [Int.toNat_natCast, hx]; rfl
      simp only [c1, cond_false, w1, ib, cond_true, ee, hx]
  · have hb : (fieldChk (ptsL l) != 0) = true := by simpa using h
    simp only [hb, cond_true, ne_eq, h, not_false_eq_true, if_true]
end Go.Proofs.Ythopjgahedijcaa

namespace Go.Pel
open Go Go.Tx
/-- sorted up to a place -/
def Srt (out : List M4) (i : Nat) : Prop := ∀ a b x y, a < b → b < i → out[a]? = some x → out[b]? = some y → ltM y x = false
/-- .. but for the one at k, which no later one comes before -/
def Near (out : List M4) (i k : Nat) : Prop := ∀ a b x y, a < b → b < i → b ≠ k → out[a]? = some x → out[b]? = some y → ltM y x = false
theorem srt_pw {out : List M4} (h : Srt out out.length) : out.Pairwise fun a b => ltM b a = false := by
  rw [List.pairwise_iff_getElem]
  intro i j hi hj hij
  exact h i j _ _ hij hj (List.getElem?_eq_getElem hi) (List.getElem?_eq_getElem hj)
theorem near_stop {out : List M4} {i k : Nat} (hok : ∀ x ∈ out, okM x) (h : Near out i k) (hk : k = 0 ∨ ∃ x y, out[k]? = some x ∧ out[k - 1]? = some y ∧ ltM x y = false) : Srt out i := by
  intro a b x y hab hbi hx hy
  by_cases hbk : b = k
  · subst hbk
    rcases hk with rfl | ⟨x', y', e1, e2, e3⟩
    · omega
    · rw [hy] at e1; injection e1 with e1; subst e1
      rcases (by omega : a = b - 1 ∨ a < b - 1) with rfl | hlt
      · rw [hx] at e2; injection e2 with e2; subst e2; exact e3
      · have h1 := h a (b - 1) x y' hlt (by omega) (by omega) hx e2
        exact ltM_neg (hok _ (List.mem_of_getElem? hy)) (hok _ (List.mem_of_getElem? e2)) (hok _ (List.mem_of_getElem? hx)) e3 h1
  · exact h a b x y hab hbi hbk hx hy
theorem near_swap {out : List M4} {i k : Nat} (hki : k < i) (hil : i ≤ out.length) (h0 : 0 < k) {x y : M4} (hx : out[k]? = some x) (hy : out[k - 1]? = some y) (hlt : ltM x y = true) (h : Near out i k) : Near ((out.set k y).set (k - 1) x) i (k - 1) := by
  have hg : ∀ j, ((out.set k y).set (k - 1) x)[j]? = if j = k - 1 then some x else if j = k then some y else out[j]? := fun j => by
    rw [List.getElem?_set, List.getElem?_set, List.length_set]
    by_cases h1 : k - 1 = j
    · rw [if_pos h1, if_pos (by omega), if_pos h1.symm]
    · rw [if_neg h1, if_neg (by omega : ¬ j = k - 1)]
      by_cases h2 : k = j
      · rw [if_pos h2, if_pos (by omega), if_pos h2.symm]
      · rw [if_neg h2, if_neg (by omega)]
  intro a b u v hab hbi hb hu hv
  rw [hg] at hu hv
  rw [if_neg hb] at hv
  by_cases hbk : b = k
  · rw [if_pos hbk] at hv; injection hv with hv; subst hv
    by_cases ha : a = k - 1
    · rw [if_pos ha] at hu; injection hu with hu; subst hu
      exact ltM_asymm hlt
    · rw [if_neg ha, if_neg (by omega)] at hu
      exact h a (k - 1) u y (by omega) (by omega) (by omega) hu hy
  · rw [if_neg hbk] at hv
    by_cases ha : a = k - 1
    · rw [if_pos ha] at hu; injection hu with hu; subst hu
      exact h k b x v (by omega) hbi hbk hx hv
    · rw [if_neg ha] at hu
      by_cases ha2 : a = k
      · rw [if_pos ha2] at hu; injection hu with hu; subst hu
        exact h (k - 1) b y v (by omega) hbi hbk hy hv
      · rw [if_neg ha2] at hu
        exact h a b u v hab hbi hbk hu hv
theorem swap_perm {out : List M4} {k : Nat} {x y : M4} (h0 : 0 < k) (hx : out[k]? = some x) (hy : out[k - 1]? = some y) : ((out.set k y).set (k - 1) x).Perm out := by
  obtain ⟨h1, rfl⟩ := List.getElem?_eq_some_iff.1 hx
  obtain ⟨h2, rfl⟩ := List.getElem?_eq_some_iff.1 hy
  exact List.set_set_perm h1 h2
end Go.Pel
namespace Go.Proofs.Ythopjgahedijcaa
open Go Go.Tx Go.Pel
theorem before_eq (d : Nat) {x y : M4} (hx : okW x) (hy : okW y) : F_ref04_Before d ((x.1, x.2.1, x.2.2.1, x.2.2.2.1, ()), (y.1, y.2.1, y.2.2.1, y.2.2.2.1, ()), ()) = some (ltM x y) := by
  have e1 := rCompare_eq d x.1 x.2.1 y.1 y.2.1 hx.b1 hx.b2 hy.b1 hy.b2
  simp only [F_ref04_Before, ref04_Before_K, ref04_Before_r0, ref04_Before_r1, ref04_Before_r2, ref04_Before_r3, ref04_Before_r4, ref04_Before_r5, ref04_Before_r6, Dt.eval, e1]
  unfold ltM cmpM orZ
  by_cases h : cmpQ x.1 x.2.1 y.1 y.2.1 = 0
  · simp only [h, show ((0 : Int) != 0) = false from rfl, cond_false, ne_eq, not_true_eq_false, if_false]
    by_cases hi : x.2.2.1 = y.2.2.1
    · simp only [hi, bne_self_eq_false, cond_false, cmpZ_eq rfl, not_true_eq_false, if_false]
      rcases ltZ x.2.2.2.1 y.2.2.2.1 with ⟨k1, k2⟩ | ⟨k1, k2⟩ | ⟨k1, k2⟩
      · simp [k1, k2]
      · simp [k1, show ¬ x.2.2.2.1 < y.2.2.2.1 by omega]
      · simp [k1, show ¬ x.2.2.2.1 < y.2.2.2.1 by omega]
    · have hb : (x.2.2.1 != y.2.2.1) = true := by simpa using hi
      simp only [hb, cond_true]
      rcases ltZ x.2.2.1 y.2.2.1 with ⟨k1, k2⟩ | ⟨k1, k2⟩ | ⟨k1, k2⟩
      · simp [k1, k2]
      · exact absurd k2 hi
      · simp [k1, show ¬ x.2.2.1 < y.2.2.1 by omega]
  · have hb : (cmpQ x.1 x.2.1 y.1 y.2.1 != 0) = true := by simpa using h
    simp only [hb, cond_true, ne_eq, h, not_false_eq_true, if_true]
theorem wrap_succ {k : Nat} (h : k < 1000000) : IntKind.wrap .i64 ((k : Int) + 1) = ((k + 1 : Nat) : Int) := by rw [IntWalk.i64_in _ (by omega)]; omega
theorem elt_some {α : Type} {z : α} {l : List α} {k : Nat} {x : α} (h : l[k]? = some x) : elt z l (k : Int).toNat = x := by unfold elt; rw [Int.toNat_natCast, h]; rfl
theorem inB_of {k n : Nat} (h : k < n) : inB (k : Int) n = true := inB_iff.2 ⟨by omega, by omega⟩
theorem dec_lt {a b : Nat} (h : a < b) : decide ((a : Int) < (b : Int)) = true := by rw [decide_eq_true_eq]; omega
theorem dec_nlt {a b : Nat} (h : ¬ a < b) : decide ((a : Int) < (b : Int)) = false := by rw [decide_eq_false_iff_not]; omega
theorem drop_of {α : Type} {l : List α} {k : Nat} {x : α} (h : l[k]? = some x) : l.drop k = x :: l.drop (k + 1) := by
  obtain ⟨h1, rfl⟩ := List.getElem?_eq_some_iff.1 h
  exact List.drop_eq_getElem_cons h1
end Go.Proofs.Ythopjgahedijcaa

namespace Go.Proofs.Ythopjgahedijcaa
open Go Go.Tx Go.Pel
theorem rChk_eq (d : Nat) {n dd : Int} (hn : i64B n = true) (hd : i64B dd = true) : F_ref01_Check d ((n, dd, ()), ()) = some (ratioChk n dd) := F_ref01_Check_eq _ _ (by unfold ref01_Check_if; simp only [hn, hd, Bool.and_self])
theorem rBoth_eq (d : Nat) {n dd n' dd' : Int} (hn : i64B n = true) (hd : i64B dd = true) (hn' : i64B n' = true) (hd' : i64B dd' = true) : F_ref01_Both d ((n, dd, ()), (n', dd', ()), ()) = some (if ratioChk n dd ≠ 0 then ratioChk n dd else ratioChk n' dd') := by
  have e1 := rChk_eq d hn hd
  have e2 := rChk_eq d hn' hd'
  simp only [F_ref01_Both, ref01_Both_K, ref01_Both_r0, ref01_Both_r1, ref01_Both_r2, ref01_Both_r3, Dt.eval, e1, e2]
  by_cases h : ratioChk n dd = 0
  · simp only [h, show ((0 : Int) != 0) = false from rfl, cond_false, ne_eq, not_true_eq_false, if_false]
  · simp only [show (ratioChk n dd != 0) = true by simpa using h, cond_true, ne_eq, h, not_false_eq_true, if_true]
theorem rTimes_eq (d : Nat) (l : List T3) {n dd n' dd' : Int} (hn : i64B n = true) (hd : i64B dd = true) (hn' : i64B n' = true) (hd' : i64B dd' = true) : F_ref04_Times d ((l, ()), (n, dd, ()), (n', dd', ()), ()) = some (chk2 l n dd n' dd') := by
  have e1 : F_ref03_Check d ((l, ()), ()) = some (fieldChk (ptsL l)) := F_ref03_Check_eq _ _ rfl
  have e2 := rBoth_eq d hn hd hn' hd'
  have e3 := rCompare_eq d n dd n' dd' hn hd hn' hd'
  unfold chk2
  simp only [F_ref04_Times, ref04_Times_K, ref04_Times_r0, ref04_Times_r1, ref04_Times_r2, ref04_Times_r3, ref04_Times_r4, ref04_Times_r5, ref04_Times_r6, ref04_Times_r7, ref04_Times_r8, ref04_Times_r9, Dt.eval, e1, e2, e3]
  by_cases h : fieldChk (ptsL l) = 0
  · simp only [h, show ((0 : Int) != 0) = false from rfl, cond_false, ne_eq, not_true_eq_false, if_false]
    by_cases h2 : ratioChk n dd = 0
    · simp only [h2, not_true_eq_false, if_false]
      by_cases h3 : ratioChk n' dd' = 0
      · simp only [h3, show ((0 : Int) != 0) = false from rfl, cond_false, not_true_eq_false, if_false]
        by_cases h4 : 0 < cmpQ n dd n' dd'
        · simp only [gt_iff_lt, h4, decide_true, cond_true, if_true]
        · simp only [gt_iff_lt, h4, decide_false, cond_false, if_false]
      · simp only [show (ratioChk n' dd' != 0) = true by simpa using h3, cond_true, h3, not_false_eq_true, if_true]
    · simp only [show (ratioChk n dd != 0) = true by simpa using h2, cond_true, h2, not_false_eq_true, if_true]
  · simp only [show (fieldChk (ptsL l) != 0) = true by simpa using h, cond_true, ne_eq, h, not_false_eq_true, if_true]
theorem chk2_same (l : List T3) (n dd : Int) : chk2 l n dd n dd = chk1 l n dd := by
  unfold chk2 chk1
  have h0 : ¬ 0 < cmpQ n dd n dd := by unfold cmpQ; rw [cmpZ_eq rfl]; omega
  rw [if_neg h0]
  by_cases h : ratioChk n dd = 0
  · simp only [h, ne_eq, not_true_eq_false, if_false]
  · simp only [h, ne_eq, not_false_eq_true, if_true]
theorem gt_cmp {x : M4} {n dd : Int} : decide (cmpQ x.1 x.2.1 n dd > 0) = gtM n dd x := rfl
theorem i64B_in {a : Int} (h : -9223372036854775808 ≤ a ∧ a ≤ 9223372036854775807) : i64B a = true := by
  unfold i64B; simp only [Bool.and_eq_true, decide_eq_true_eq]; exact h
/-- a field that the laws pass over -/
def greatB (l : List T3) : Bool := bif great (ptsL l).length then true else ((l.length : Int) == (64 : Int))
theorem great_eq (d : Nat) (l : List T3) : F_law04_great d ((l, ()), ()) = some (greatB l) := by
  have e1 : F_ref03_Great d ((l, ()), ()) = some (great (ptsL l).length) := F_ref03_Great_eq _ _ rfl
  unfold greatB
  simp only [F_law04_great, law04_great_K, law04_great_r0, law04_great_r1, Dt.eval, e1]
  cases great (ptsL l).length <;> rfl
end Go.Proofs.Ythopjgahedijcaa

namespace Go
open Go.ChangeShapes Go.WideShapes Go.ChangeAt Go.RowKit
section
variable {H : Type} {enc : TypeId × Value → H} {P : Program} {w : World} {base : Nat} {spare : Nat → Bool} {held : Bool}
/-- a field of a struct -/
theorem field_at {t : TypeId} {fs : Array Field} {fuel : Nat} {cs : List Value} {x : DataW H × List MemPlace} (hs : P.underlying t = some (.struct fs)) (h : DataW.trod enc P w base spare held fuel t cs = some x)
    {i : Nat} {f : Field} (hf : fs[i]? = some f) {off n : Nat} {ft : TypeId} (ho : f.offset = off) (ht : f.type = ft) (hn : P.cellsOf ft = n) : ∃ m y, DataW.trod enc P w base spare held m ft ((cs.drop off).take n) = some y := by
  obtain ⟨xs, m, _, _, _, hlen, hg⟩ := DataW.trod_struct hs h
  have h1 := hg i f hf
  subst ho ht hn
  have hi : i < xs.length := by rw [hlen]; exact (Array.getElem?_eq_some_iff.1 hf).1
  exact ⟨m, xs[i], by rw [h1, List.getElem?_eq_getElem hi]⟩
theorem int_cell {t : TypeId} {k : IntKind} {fuel : Nat} {cs : List Value} {x : DataW H × List MemPlace} (ht : P.underlying t = some (.int k)) (h : DataW.trod enc P w base spare held fuel t cs = some x) : ∃ n, cs = [.int k n] ∧ (Lit.int k n).wf = true := by
  obtain ⟨n, h1, _, h2⟩ := DataW.trod_int ht h; exact ⟨n, h1, h2⟩
theorem wf_i64 {n : Int} (h : (Lit.int .i64 n).wf = true) : -9223372036854775808 ≤ n ∧ n ≤ 9223372036854775807 := bounds_i64 h
theorem wf_u8 {n : Int} (h : (Lit.int .u8 n).wf = true) : 0 ≤ n ∧ n ≤ 255 := bounds_u8 h
theorem bytes_of (zs : List Int) (h : ∀ n ∈ zs, (Lit.int .u8 n).wf = true) : ∃ l : List UInt8, zs = l.map fun x => (x.toNat : Int) := by
  induction zs with
  | nil => exact ⟨[], rfl⟩
  | cons z zs ih =>
    obtain ⟨l, rfl⟩ := ih (fun n hn => h n (List.mem_cons_of_mem _ hn))
    have hz := wf_u8 (h z (List.mem_cons_self ..))
    refine ⟨UInt8.ofNat z.toNat :: l, ?_⟩
    rw [List.map_cons]
    congr 1
    simp; omega
/-- bytes that came in -/
theorem arg_bytes {t e : TypeId} {fuel : Nat} {A : Option Addr} {n c : Nat} {x : DataW H × List MemPlace} (ht : P.underlying t = some (.slice e)) (he : P.underlying e = some (.int .u8)) (hc : P.cellsOf e = 1)
    (h : DataW.trod enc P w base (fun _ => true) held fuel t [Value.slice A n c] = some x) : ∃ l : List UInt8, l.length = n ∧ Sl w 1 A l.length c (vb l) := by
  rcases open_ints ht he hc h with ⟨hcs, _⟩ | ⟨a, len, cap, zs, hcs, _, hl, hm, hz, _, hcell, hwz⟩
  · simp only [List.cons.injEq, and_true] at hcs
    injection hcs with h1 h2 h3
    subst h1 h2 h3
    exact ⟨[], rfl, Sl.nil_ _ _ _ _⟩
  · simp only [List.cons.injEq, and_true] at hcs
    injection hcs with h1 h2 h3
    subst h1 h2 h3
    have hz' : zs.length = c := by simpa using hz
    obtain ⟨l, hl'⟩ := bytes_of (zs.take n) (fun m hm => hwz m (List.mem_of_mem_take hm))
    have hlen : l.length = n := by
      have := congrArg List.length hl'
      rw [List.length_take, List.length_map] at this; omega
    refine ⟨l, hlen, by omega, by rw [vb_length]; omega, fun hn => ?_⟩
    obtain ⟨b, o, spot⟩ := a
    have h0 := hcell 0 (by omega)
    have hspot : spot = none := by simpa [Addr.add] using World.cell?_spot h0
    subst hspot
    refine ⟨b, o, rfl, ?_, fun j u hu => ?_⟩
    · have hb := World.block_lt_of_cell? w _ h0
      simpa [Addr.add] using hb
    · rw [vb_get] at hu
      have hj : j < l.length := by
        rcases Nat.lt_or_ge j l.length with h | h
        · exact h
        · rw [List.getElem?_eq_none h] at hu; cases hu
      have h1 := hcell j (by omega)
      have e1 : (⟨b, o, none⟩ : Addr).add j = ⟨b, o + j, none⟩ := by
        unfold Addr.add; split
        · rename_i h0; rw [h0]; rfl
        · rfl
      rw [e1] at h1
      rw [h1, ← hu]
      have e2 : (zs.take n)[j]? = some (zs.getD j 0) := by
        rw [List.getElem?_take, if_pos (by omega), List.getD_eq_getElem?_getD, List.getElem?_eq_getElem (by omega)]; rfl
      rw [hl'] at e2
      rw [List.getElem?_map] at e2
      cases hx : l[j]? with
      | none => rw [hx] at e2; cases e2
      | some y => rw [hx] at e2; simp only [Option.map_some, Option.some.injEq] at e2 ⊢; rw [e2]
end
end Go
namespace Go.Proofs.Ythopjgahedijcaa
open Go.ChangeShapes Go.WideShapes Go.ChangeAt Go.RowKit
theorem ownKnob_ : ownKnob Try.prog.godebug = none := by kernel_rfl
theorem laidOut_ : laidOutB Try.prog = true := by kernel_rfl
end Go.Proofs.Ythopjgahedijcaa

namespace Go
open Go.ChangeShapes Go.WideShapes Go.ChangeAt Go.RowKit Go.Deep
theorem choose_below {α : Type} {p : Nat → α → Prop} : ∀ n : Nat, (∀ i, i < n → ∃ v, p i v) → ∃ l : List α, l.length = n ∧ ∀ (i : Nat) (x : α), l[i]? = some x → p i x
  | 0, _ => ⟨[], rfl, fun i x h => by simp at h⟩
  | n + 1, h => by
    obtain ⟨l, hl, hp⟩ := choose_below n fun i hi => h i (by omega)
    obtain ⟨v, hv⟩ := h n (by omega)
    refine ⟨l ++ [v], by simp [hl], fun i x hx => ?_⟩
    rcases Nat.lt_or_ge i n with hi | hi
    · rw [List.getElem?_append_left (by omega)] at hx; exact hp i x hx
    · rw [List.getElem?_append_right (by omega)] at hx
      have : i = n := by
        have := (List.getElem?_eq_some_iff.1 hx).1
        simp at this; omega
      subst this
      simp [hl] at hx
      subst hx; exact hv
theorem flat_get {α : Type} {cells : α → List Value} {k : Nat} (hk : ∀ a, (cells a).length = k) (h0 : 0 < k) : ∀ (l : List α) (j : Nat) (u : Value), (l.flatMap cells)[j]? = some u → ∃ x, l[j / k]? = some x ∧ (cells x)[j % k]? = some u
  | [], j, u, h => by simp at h
  | x :: l, j, u, h => by
    rw [List.flatMap_cons] at h
    rcases Nat.lt_or_ge j k with hj | hj
    · rw [List.getElem?_append_left (by rw [hk]; exact hj)] at h
      rw [Nat.div_eq_of_lt hj, Nat.mod_eq_of_lt hj]
      exact ⟨x, rfl, h⟩
    · rw [List.getElem?_append_right (by rw [hk]; exact hj), hk] at h
      obtain ⟨y, hy, hu⟩ := flat_get hk h0 l (j - k) u h
      obtain ⟨m, rfl⟩ : ∃ m, j = m + k := ⟨j - k, by omega⟩
      rw [Nat.add_sub_cancel] at hy hu
      rw [Nat.add_div_right _ h0, Nat.add_mod_right]
      exact ⟨y, by simpa using hy, hu⟩
theorem flat_len {α : Type} {cells : α → List Value} {k : Nat} (hk : ∀ a, (cells a).length = k) (l : List α) : (l.flatMap cells).length = l.length * k := by
  induction l with
  | nil => simp
  | cons x l ih => rw [List.flatMap_cons, List.length_append, ih, hk, List.length_cons, Nat.add_mul]; omega
section
variable {H : Type} {enc : TypeId × Value → H} {P : Program} {w : World} {base : Nat} {held : Bool}
theorem arg_nil {t e : TypeId} {fuel : Nat} {A : Option Addr} {n c : Nat} {x : DataW H × List MemPlace} (ht : P.underlying t = some (.slice e))
    (h : DataW.trod enc P w base (fun _ => true) held fuel t [Value.slice A n c] = some x) : A = none → c = 0 := by
  rcases open_slice ht h with ⟨hcs, _⟩ | ⟨a, len, cap, m, q, D, Pl, hcs, _⟩
  · simp only [List.cons.injEq, and_true] at hcs
    injection hcs with h1 h2 h3
    intro _; exact h3
  · simp only [List.cons.injEq, and_true] at hcs
    injection hcs with h1 h2 h3
    subst h1; intro h; cases h
/-- A slice that came in: the list of its elements. -/
theorem arg_slice {α : Type} (cells : α → List Value) (ok : α → Prop) {t e : TypeId} {k fuel : Nat} {A : Option Addr} {n c : Nat} {x : DataW H × List MemPlace}
    (ht : P.underlying t = some (.slice e)) (hC : P.cellsOf e = k) (h0 : 0 < k) (hk : ∀ a, (cells a).length = k)
    (hR : ∀ (m : Nat) (l : List Value) (y : DataW H × List MemPlace), DataW.trod enc P w base (fun _ => true) held m e l = some y → l.length = k → ∃ a, l = cells a ∧ ok a)
    (h : DataW.trod enc P w base (fun _ => true) held fuel t [Value.slice A n c] = some x) :
    ∃ l : List α, l.length = n ∧ Sl w k A l.length c (l.flatMap cells) ∧ (∀ a ∈ l, ok a) ∧ (A = none → c = 0) ∧ c ≤ maxLen := by
  rcases open_slice ht h with ⟨hcs, _⟩ | ⟨a, len, cap, m, q, D, Pl, hcs, _, hl, hmx, hm, _, hi⟩
  · simp only [List.cons.injEq, and_true] at hcs
    injection hcs with h1 h2 h3
    subst h1 h2 h3
    exact ⟨[], rfl, Sl.nil_ _ _ _ _, (fun _ h => by cases h), (fun _ => rfl), Nat.zero_le _⟩
  · simp only [List.cons.injEq, and_true] at hcs
    injection hcs with h1 h2 h3
    subst h1 h2 h3
    simp only [if_true] at hm
    subst hm
    obtain ⟨l, hll, hp⟩ := choose_below (α := α) (p := fun i v => (∀ j u, (cells v)[j]? = some u → w.cell? (a.add (i * k + j)) = some u) ∧ ok v) n (fun i hin => by
      obtain ⟨cs', hc, ht'⟩ := hi i (by omega)
      rw [hC] at hc
      obtain ⟨_, hcl, hat⟩ := World.cells?_some hc
      obtain ⟨v, rfl, hv⟩ := hR _ _ _ ht' hcl
      refine ⟨v, fun j u hu => ?_, hv⟩
      have hj : j < k := by rw [← hk v]; exact (List.getElem?_eq_some_iff.1 hu).1
      rw [← Go.Deep.add_add, hat j hj, hu])
    refine ⟨l, hll, ⟨by omega, by rw [flat_len hk, hll], fun hn => ?_⟩, fun v hv => ?_, (fun h => by cases h), hmx⟩
    · obtain ⟨v0, hv0⟩ : ∃ v, l[0]? = some v := ⟨_, List.getElem?_eq_getElem (by omega)⟩
      obtain ⟨u0, hu0⟩ : ∃ u, (cells v0)[0]? = some u := ⟨_, List.getElem?_eq_getElem (by rw [hk]; exact h0)⟩
      have hc0 := (hp 0 v0 hv0).1 0 u0 hu0
      obtain ⟨b, o, spot⟩ := a
      have hspot : spot = none := by simpa [Addr.add] using World.cell?_spot hc0
      subst hspot
      refine ⟨b, o, rfl, ?_, fun j u hu => ?_⟩
      · have hb := World.block_lt_of_cell? w _ hc0
        simpa [Addr.add] using hb
      · obtain ⟨v, hv, huv⟩ := flat_get hk h0 l j u hu
        have h1 := (hp _ v hv).1 _ u huv
        have e0 : j / k * k + j % k = j := by rw [Nat.mul_comm]; exact Nat.div_add_mod j k
        rw [e0] at h1
        have e1 : (⟨b, o, none⟩ : Addr).add j = ⟨b, o + j, none⟩ := by
          unfold Addr.add; split
          · rename_i h0; rw [h0]; rfl
          · rfl
        rw [e1] at h1; exact h1
    · obtain ⟨i, hi'⟩ := List.getElem?_of_mem hv
      exact (hp i v hi').2
end
end Go

namespace Go.Proofs.Ythopjgahedijcaa
open Go.ChangeShapes Go.WideShapes Go.ChangeAt Go.RowKit Go.Pel Go.Deep
theorem list1 {α : Type} (l : List α) (h : l.length = 1) : ∃ a, l = [a] := by
  match l, h with
  | [a], _ => exact ⟨a, rfl⟩
theorem list2 {α : Type} (l : List α) (h : l.length = 2) : ∃ a b, l = [a, b] := by
  match l, h with
  | [a, b], _ => exact ⟨a, b, rfl⟩
theorem list3 {α : Type} (l : List α) (h : l.length = 3) : ∃ a b c, l = [a, b, c] := by
  match l, h with
  | [a, b, c], _ => exact ⟨a, b, c, rfl⟩
section
variable {H : Type} {enc : TypeId × Value → H} {w : World} {base : Nat} {spare : Nat → Bool} {held : Bool}
theorem cellsF_int : Try.prog.cellsOf 3 = 1 := by kernel_rfl
theorem cellsF_i64 : Try.prog.cellsOf 2 = 1 := by kernel_rfl
theorem cellsF_point : Try.prog.cellsOf 60 = 3 := by kernel_rfl
theorem cellsF_field : Try.prog.cellsOf 24 = 1 := by kernel_rfl
theorem cellsF_points : Try.prog.cellsOf 22 = 1 := by kernel_rfl
theorem point_cells {fuel : Nat} {l : List Value} {x : DataW H × List MemPlace} (h : DataW.trod enc Try.prog w base spare held fuel 60 l = some x) (hl : l.length = 3) :
    ∃ p : Pt, l = [.int .i64 p.id, .int .i64 p.a, .int .i64 p.b] ∧ p.Fits := by
  obtain ⟨c0, c1, c2, rfl⟩ := list3 l hl
  obtain ⟨m4, y4, h4⟩ := field_at Try.underlying60 h (i := 0) rfl rfl rfl cellsF_int
  obtain ⟨m5, y5, h5⟩ := field_at Try.underlying60 h (i := 1) rfl rfl rfl cellsF_i64
  obtain ⟨m6, y6, h6⟩ := field_at Try.underlying60 h (i := 2) rfl rfl rfl cellsF_i64
  obtain ⟨i, e4, w4⟩ := int_cell Try.underlying3 h4
  obtain ⟨a, e5, w5⟩ := int_cell Try.underlying2 h5
  obtain ⟨b, e6, w6⟩ := int_cell Try.underlying2 h6
  simp at e4 e5 e6
  subst e4 e5 e6
  exact ⟨⟨i, a, b⟩, rfl, ⟨wf_i64 w4, wf_i64 w5, wf_i64 w6⟩⟩
theorem point_read (fuel : Nat) (l : List Value) (x : DataW H × List MemPlace) (h : DataW.trod enc Try.prog w base spare held fuel 60 l = some x) (hl : l.length = 3) : ∃ p : Pt, l = p.cells ∧ p.Fits := point_cells h hl
theorem field_cells {fuel : Nat} {l : List Value} {x : DataW H × List MemPlace} (h : DataW.trod enc Try.prog w base (fun _ => true) held fuel 24 l = some x) (hl : l.length = 1) :
    ∃ (A : Option Addr) (c : Nat) (m : List Pt), l = [.slice A m.length c] ∧ Sl w 3 A m.length c (vp m) ∧ (A = none → c = 0) ∧ ∀ p ∈ m, p.Fits := by
  obtain ⟨c0, rfl⟩ := list1 l hl
  obtain ⟨m0, y0, h0⟩ := field_at Try.underlying24 h (i := 0) rfl rfl rfl cellsF_points
  have h0' : DataW.trod enc Try.prog w base (fun _ => true) held m0 22 [c0] = some y0 := by simpa using h0
  obtain ⟨A, n, c, rfl⟩ : ∃ A n c, c0 = Value.slice A n c := by
    rcases open_slice Try.underlying22 h0' with ⟨hcs, _⟩ | ⟨a, len, cap, m, q, D, Pl, hcs, _⟩
    · simp only [List.cons.injEq, and_true] at hcs; exact ⟨_, _, _, hcs⟩
    · simp only [List.cons.injEq, and_true] at hcs; exact ⟨_, _, _, hcs⟩
  have hn := arg_nil Try.underlying22 h0'
  obtain ⟨pts, rfl, hs, hok, _, _⟩ := arg_slice Pt.cells Pt.Fits Try.underlying22 cellsF_point (by decide) (fun _ => rfl) point_read h0'
  exact ⟨A, c, pts, rfl, hs, hn, hok⟩
theorem cellsF_ratio : Try.prog.cellsOf 26 = 2 := by kernel_rfl
theorem ratio_cells {fuel : Nat} {l : List Value} {x : DataW H × List MemPlace} (h : DataW.trod enc Try.prog w base spare held fuel 26 l = some x) (hl : l.length = 2) :
    ∃ n d : Int, l = [.int .i64 n, .int .i64 d] ∧ (-9223372036854775808 ≤ n ∧ n ≤ 9223372036854775807) ∧ (-9223372036854775808 ≤ d ∧ d ≤ 9223372036854775807) := by
  obtain ⟨c0, c1, rfl⟩ := list2 l hl
  obtain ⟨m4, y4, h4⟩ := field_at Try.underlying26 h (i := 0) rfl rfl rfl cellsF_i64
  obtain ⟨m5, y5, h5⟩ := field_at Try.underlying26 h (i := 1) rfl rfl rfl cellsF_i64
  obtain ⟨n, e4, w4⟩ := int_cell Try.underlying2 h4
  obtain ⟨d, e5, w5⟩ := int_cell Try.underlying2 h5
  simp at e4 e5
  subst e4 e5
  exact ⟨n, d, rfl, wf_i64 w4, wf_i64 w5⟩
end
end Go.Proofs.Ythopjgahedijcaa
