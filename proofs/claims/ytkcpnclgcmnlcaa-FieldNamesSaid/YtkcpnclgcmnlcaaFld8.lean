/- field.Change; New. -/
import Derived.Test.YtkcpnclgcmnlcaaFld6
import Derived.Test.YtkcpnclgcmnlcaaStep
set_option linter.unusedSimpArgs false
set_option linter.unusedVariables false

namespace Go.Proofs.Ytkcpnclgcmnlcaa
open Go.RowKit Go.Pel Go.IntWalk
theorem vp_set (l : List Pt) (k : Nat) (p : Pt) : vp (l.set k p) = ((vp l).set (k * 3) (.int .i64 p.id) |>.set (k * 3 + 1) (.int .i64 p.a) |>.set (k * 3 + 2) (.int .i64 p.b)) := by
  induction l generalizing k with
  | nil => simp [vp]
  | cons x l ih =>
    cases k with
    | zero => simp [vp, Pt.cells]
    | succ k =>
      have h := ih k
      unfold vp at h ⊢
      rw [List.set_cons_succ, List.flatMap_cons, h, List.flatMap_cons]
      have e : (k + 1) * 3 = k * 3 + 3 := by omega
      rw [e]
      simp [Pt.cells]
set_option maxRecDepth 10000 in
set_option maxHeartbeats 2000000 in
theorem fieldChange_any (A : Option Addr) (c : Nat) (l : List Pt) (p : Pt) (w : World) (hs : Sl w 3 A l.length c (vp l)) (hn : A = none → c = 0) :
    Calls Try.prog 23 #[.agg #[.slice A l.length c], .agg #[.int .i64 p.id, .int .i64 p.a, .int .i64 p.b]] w fun e w' => ∃ A' c', e = .returned (.tuple #[.agg #[.slice A' (fieldChange l p).1.length c'], .int .i64 (fieldChange l p).2]) ∧ ∃ x, w' = ext w x ∧ Own (ext w x) w.heap.size 26 3 A' (fieldChange l p).1.length c' (vp (fieldChange l p).1) := by
  have q := Lib.hid (fun W hb => fieldCheck_any A c l W (hs.bel (w' := W) hb))
  have q2 := Lib.hid (fun W hb => place_any A c l p.id W (hs.bel (w' := W) hb))
  by_cases h : fieldChk l = 0
  · rw [h] at q
    obtain ⟨h64, hchk, hinc⟩ := fieldChk_zero h
    rcases pt_cases p with hp | hp
    · have e1 := Lib.hid (pchk_lit p 0 hp)
      cases hb : hasB l p.id with
      | true =>
        obtain ⟨h4, q0, hp0, h5⟩ := atI_low hinc hb
        have hlt : lowB l p.id < l.length := (List.getElem?_eq_some_iff.1 hp0).1
        have HF : Hid (fieldChange l p = (l.set (lowB l p.id) p, 0)) := Lib.hid (by simp [fieldChange, h, hp, hb])
        have hP : fieldPlace l p.id = ((lowB l p.id : Int), 0) := by simp [fieldPlace, h, hb]
        rw [hP] at q2
        rw [HF.out]
        simp only [List.length_set]
        rw [vp_set]
        obtain ⟨k, hk⟩ : ∃ k, lowB l p.id = k := ⟨_, rfl⟩
        rw [hk] at q2 hlt ⊢
        have hlt' : (k : Int) < (l.length : Int) := by omega
        have HQ : Hid ((vp l)[k * 3]? = some (.int .i64 q0.id) ∧ (vp l)[k * 3 + 1]? = some (.int .i64 q0.a) ∧ (vp l)[k * 3 + 2]? = some (.int .i64 q0.b)) := Lib.hid ⟨by have := fl_at pt_len hp0 0 (by omega); rw [hk] at this; exact this, by have := fl_at pt_len hp0 1 (by omega); rw [hk] at this; exact this, by have := fl_at pt_len hp0 2 (by omega); rw [hk] at this; exact this⟩
        have q3 := Lib.hid (fun W hb => clone_any A c l W (hs.bel (w' := W) hb) hn (by omega))
        clear h hp hb hinc hchk hP hk h4 h5 hp0 HF
        go_enter Try.func23, Try.ntmps23
        go_wp2_with (first | (go_at_call 25; refine (q.out _ (by (try simp only [ext_ext]); repeat (first | exact Bel.refl _ | assumption | refine bel_and ?_ _ | refine bel_drews ?_ _ | refine Bel.ext ?_ _ | refine Bel.alloc ?_ _ | refine Bel.drewN ?_ _))).mono ?_; rintro e _ ⟨rfl, nx, rfl⟩) | (go_at_call 67; refine (e1.out _).mono ?_; rintro e _ ⟨rfl, nx, rfl⟩) | (go_at_call 65; refine (q2.out _ (by (try simp only [ext_ext]); repeat (first | exact Bel.refl _ | assumption | refine bel_and ?_ _ | refine bel_drews ?_ _ | refine Bel.ext ?_ _ | refine Bel.alloc ?_ _ | refine Bel.drewN ?_ _))).mono ?_; rintro e _ ⟨rfl, nx, rfl⟩))
        refine (q3.out _ (by (try simp only [ext_ext]); repeat (first | exact Bel.refl _ | assumption | refine bel_and ?_ _ | refine bel_drews ?_ _ | refine Bel.ext ?_ _ | refine Bel.alloc ?_ _ | refine Bel.drewN ?_ _))).mono ?_
        rintro e _ ⟨A2, c2, rfl, x2, rfl, own2⟩
        obtain ⟨a, rfl⟩ : ∃ a, A2 = some ⟨a, 0, none⟩ := by
          rcases own2.row with ⟨_, h0, _⟩ | ⟨a, cur, h0, _⟩
          · omega
          · exact ⟨a, h0⟩
        have HG : Hid (w.heap.size + 1 + 1 + 1 ≤ a) := Lib.hid (by
          rcases own2.row with ⟨h, _⟩ | ⟨a', cur, h, hr, _⟩
          · cases h
          · have e1 : a = a' := by injection h with h; injection h
            have := hr.1
            simp [go_sem] at this
            omega)
        simp only [ext_ext] at own2 ⊢
        generalize hZ : (((_ : Beyond).and _).and _).and x2 = Z at own2 ⊢
        obtain ⟨W2, hW2⟩ : ∃ W2, ext (((w.alloc (.cells #[.slice A l.length c] 24)).alloc (.cells #[.int .i64 p.id, .int .i64 p.a, .int .i64 p.b] 26)).alloc (.cells #[.slice none 0 0] 24)) Z = W2 := ⟨_, rfl⟩
        rw [hW2] at own2 ⊢
        have hb2 : Bel w W2 := by rw [← hW2]; exact (by (try simp only [ext_ext]); repeat (first | exact Bel.refl _ | assumption | refine bel_and ?_ _ | refine bel_drews ?_ _ | refine Bel.ext ?_ _ | refine Bel.alloc ?_ _ | refine Bel.drewN ?_ _))
        have s0 : w.heap.size < W2.heap.size := by rw [← hW2]; simp [go_sem]
        have s1 : w.heap.size + 1 < W2.heap.size := by rw [← hW2]; simp [go_sem]
        have s2 : w.heap.size + 2 < W2.heap.size := by rw [← hW2]; simp [go_sem]
        have f1 : W2.cell? ⟨w.heap.size + 1, 0, none⟩ = some (.int .i64 p.id) ∧ W2.cell? ⟨w.heap.size + 1, 1, none⟩ = some (.int .i64 p.a) ∧ W2.cell? ⟨w.heap.size + 1, 2, none⟩ = some (.int .i64 p.b) := by rw [← hW2]; simp [go_sem]
        have f2 : W2.cell? ⟨w.heap.size + 1 + 1, 0, none⟩ = some (.slice none 0 0) := by rw [← hW2]; simp [go_sem]
        have f3 : W2.frozen? ⟨w.heap.size + 1 + 1, 0, none⟩ = false := by rw [← hW2]; simp [go_sem]
        obtain ⟨g0, g1, g2⟩ := f1
        have b0 := own_cell own2 (j := k * 3) (u := .int .i64 q0.id) HQ.out.1
        have b1 := own_cell own2 (j := k * 3 + 1) (u := .int .i64 q0.a) HQ.out.2.1
        have b2 := own_cell own2 (j := k * 3 + 2) (u := .int .i64 q0.b) HQ.out.2.2
        have z0 := own_frozen own2 (k * 3)
        have z1 := own_frozen own2 (k * 3 + 1)
        have z2 := own_frozen own2 (k * 3 + 2)
        have hne1 : w.heap.size + 1 ≠ a := by have := HG.out; omega
        have hne2 : w.heap.size + 1 + 1 ≠ a := by have := HG.out; omega
        have hne3 : ¬ a = w.heap.size + 1 + 1 := by have := HG.out; omega
        clear hW2 hZ
        go_wp2
        have o1 := (World.ownsRow.stored own2 (k * 3) (.int .i64 p.id)).1
        have o2 := (World.ownsRow.stored o1 (k * 3 + 1) (.int .i64 p.a)).1
        have o3 := (World.ownsRow.stored o2 (k * 3 + 2) (.int .i64 p.b)).1
        have o4 := own_other (b := w.heap.size + 1 + 1) (o := 0) o3 (.slice (some ⟨a, 0, none⟩) l.length c2) (fun g h => block_ne hne2 h)
        have hga := HG.out
        have hb3 := (((hb2.setCell (p := ⟨a, k * 3, none⟩) (by show w.heap.size ≤ a; omega) (.int .i64 p.id)).setCell (p := ⟨a, k * 3 + 1, none⟩) (by show w.heap.size ≤ a; omega) (.int .i64 p.a)).setCell (p := ⟨a, k * 3 + 2, none⟩) (by show w.heap.size ≤ a; omega) (.int .i64 p.b)).setCell (p := ⟨w.heap.size + 1 + 1, 0, none⟩) (by show w.heap.size ≤ w.heap.size + 1 + 1; omega) (.slice (some ⟨a, 0, none⟩) l.length c2)
        refine bodyPost_ret (v := .tuple #[.agg #[.slice (some ⟨a, 0, none⟩) l.length c2], .int .i64 0]) (by simp [results, Try.results23, go_sem, *]) rfl ?_
        exact ⟨_, _, rfl, own_ret hb3 o4 (Bel.refl _) (by simp [go_sem]; try omega)⟩
      | false =>
        have HF : Hid (fieldChange l p = ([], 6)) := Lib.hid (by simp [fieldChange, h, hp, hb])
        have hP : fieldPlace l p.id = (0, 6) := by simp [fieldPlace, h, hb]
        rw [hP] at q2
        rw [HF.out]
        clear h hp hb hinc hchk hP
        go_enter Try.func23, Try.ntmps23
        go_wp2_with (first | (go_at_call 25; refine (q.out _ (by (try simp only [ext_ext]); repeat (first | exact Bel.refl _ | assumption | refine bel_and ?_ _ | refine bel_drews ?_ _ | refine Bel.ext ?_ _ | refine Bel.alloc ?_ _ | refine Bel.drewN ?_ _))).mono ?_; rintro e _ ⟨rfl, nx, rfl⟩) | (go_at_call 67; refine (e1.out _).mono ?_; rintro e _ ⟨rfl, nx, rfl⟩) | (go_at_call 65; refine (q2.out _ (by (try simp only [ext_ext]); repeat (first | exact Bel.refl _ | assumption | refine bel_and ?_ _ | refine bel_drews ?_ _ | refine Bel.ext ?_ _ | refine Bel.alloc ?_ _ | refine Bel.drewN ?_ _))).mono ?_; rintro e _ ⟨rfl, nx, rfl⟩))
        (refine bodyPost_ret (v := .tuple #[.agg #[.slice none 0 0], .int .i64 (6)]) (by simp [results, Try.results23, go_sem]) rfl ?_; exact ⟨_, _, rfl, nil_ret (by (try simp only [ext_ext]); repeat (first | exact Bel.refl _ | assumption | refine bel_and ?_ _ | refine bel_drews ?_ _ | refine Bel.ext ?_ _ | refine Bel.alloc ?_ _ | refine Bel.drewN ?_ _))⟩)
    · have e1 := Lib.hid (pchk_lit p 8 hp)
      have HF : Hid (fieldChange l p = ([], 8)) := Lib.hid (by simp [fieldChange, h, hp])
      rw [HF.out]
      clear h hp hinc hchk
      go_enter Try.func23, Try.ntmps23
      go_wp2_with (first | (go_at_call 25; refine (q.out _ (by (try simp only [ext_ext]); repeat (first | exact Bel.refl _ | assumption | refine bel_and ?_ _ | refine bel_drews ?_ _ | refine Bel.ext ?_ _ | refine Bel.alloc ?_ _ | refine Bel.drewN ?_ _))).mono ?_; rintro e _ ⟨rfl, nx, rfl⟩) | (go_at_call 67; refine (e1.out _).mono ?_; rintro e _ ⟨rfl, nx, rfl⟩))
      (refine bodyPost_ret (v := .tuple #[.agg #[.slice none 0 0], .int .i64 (8)]) (by simp [results, Try.results23, go_sem]) rfl ?_; exact ⟨_, _, rfl, nil_ret (by (try simp only [ext_ext]); repeat (first | exact Bel.refl _ | assumption | refine bel_and ?_ _ | refine bel_drews ?_ _ | refine Bel.ext ?_ _ | refine Bel.alloc ?_ _ | refine Bel.drewN ?_ _))⟩)
  · have HF : Hid (fieldChange l p = ([], fieldChk l)) := Lib.hid (by simp [fieldChange, h])
    have hz : (fieldChk l == 0) = false := by simpa using h
    have hz' : (fieldChk l != 0) = true := by simpa using h
    rw [HF.out]
    clear h
    go_enter Try.func23, Try.ntmps23
    go_wp2_with ((go_at_call 25; refine (q.out _ (by (try simp only [ext_ext]); repeat (first | exact Bel.refl _ | assumption | refine bel_and ?_ _ | refine bel_drews ?_ _ | refine Bel.ext ?_ _ | refine Bel.alloc ?_ _ | refine Bel.drewN ?_ _))).mono ?_; rintro e _ ⟨rfl, nx, rfl⟩))
    (refine bodyPost_ret (v := .tuple #[.agg #[.slice none 0 0], .int .i64 ((fieldChk l))]) (by simp [results, Try.results23, go_sem]) rfl ?_; exact ⟨_, _, rfl, nil_ret (by (try simp only [ext_ext]); repeat (first | exact Bel.refl _ | assumption | refine bel_and ?_ _ | refine bel_drews ?_ _ | refine Bel.ext ?_ _ | refine Bel.alloc ?_ _ | refine Bel.drewN ?_ _))⟩)
set_option maxHeartbeats 400000 in
theorem fieldNew_any (w : World) : Calls Try.prog 28 #[] w fun e w' => e = .returned (.agg #[.slice none 0 0]) ∧ ∃ x, w' = ext w x := by
  go_enter Try.func28, Try.ntmps28
  go_wp2
  exact bodyPost_ret (v := .agg #[.slice none 0 0]) (by simp [results, Try.results28, go_sem]) rfl ⟨by rfl, ext_of (by (try simp only [ext_ext]); repeat (first | exact Bel.refl _ | assumption | refine bel_and ?_ _ | refine bel_drews ?_ _ | refine Bel.ext ?_ _ | refine Bel.alloc ?_ _ | refine Bel.drewN ?_ _))⟩
end Go.Proofs.Ytkcpnclgcmnlcaa
