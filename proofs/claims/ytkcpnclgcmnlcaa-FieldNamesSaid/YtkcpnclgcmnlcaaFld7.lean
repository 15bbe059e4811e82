/- field.Put, Change. -/
import Derived.Test.YtkcpnclgcmnlcaaFld6
import Derived.Deep.RegionHeld3
set_option linter.unusedSimpArgs false
set_option linter.unusedVariables false
namespace Go.Proofs.Ytkcpnclgcmnlcaa
open Go.RowKit Go.Pel Go.IntWalk
theorem put_len (l : List Pt) (k : Nat) (p : Pt) (hk : k ≤ l.length) : (l.take k ++ p :: l.drop k).length = l.length + 1 := by
  simp only [List.length_append, List.length_take, List.length_cons, List.length_drop]; omega
theorem insert_call {A : Option Addr} {c : Nat} {l : List Pt} {k : Nat} {p : Pt} {g B : Nat} {W0 W W1 W2 : World} (hown : Own W1 B 26 3 A l.length c (vp l)) (h1 : Bel W1 W) (h0 : Bel W0 W) (hB : W0.heap.size ≤ B)
    (h2 : Bel (W2.alloc (.cells #[.int .i64 p.id, .int .i64 p.a, .int .i64 p.b] 26)) W) (hg : g = W2.heap.size) (hne : g < B ∨ W1.heap.size ≤ g) (hl : l.length ≤ 1000000) (hk : k ≤ l.length) :
    Calls Try.prog 69 #[.slice A l.length c, .int .i64 k, .slice (some ⟨g, 0, none⟩) 1 1] W fun e w' => ∃ A' c', e = .returned (.slice A' (l.length + 1) c') ∧ ∃ y, w' = ext W0 y ∧ Own (ext W0 y) W0.heap.size 26 3 A' (l.length + 1) c' (vp (l.take k ++ p :: l.drop k)) := by
  have hv := (sl_new W2 #[.int .i64 p.id, .int .i64 p.a, .int .i64 p.b] 26 3 g hg rfl).bel h2
  subst hg
  have hhp : W.heap[W2.heap.size]? = some (.cells #[.int .i64 p.id, .int .i64 p.a, .int .i64 p.b] 26 (0, 0)) := by
    rw [h2.block _ (by simp)]; unfold World.alloc; exact Array.getElem?_push_size
  refine insert_any A c l k p W2.heap.size 1 W0 W h0 ((hown.bel h1).base_le hB) hv hl hk ?_ (by simp [World.shape?, hhp]) (by intro j; simp [World.frozen?, hhp])
  rintro rfl
  rcases hown.row with ⟨h, _⟩ | ⟨g', cur, h, hr, _⟩
  · cases h
  · have e1 : W2.heap.size = g' := by injection h with h; injection h
    have := hr.lt; have := hr.1
    omega
theorem insert_callA {A : Option Addr} {c : Nat} {l : List Pt} {k : Nat} {p : Pt} {g B : Nat} {W0 W2 W1 : World} (hown : Own W1 B 26 3 A l.length c (vp l)) (h1 : Bel W1 W2) (h0 : Bel W0 W2) (hB : W0.heap.size ≤ B) (hg : g = W2.heap.size) (hl : l.length ≤ 1000000) (hk : k ≤ l.length) :
    Calls Try.prog 69 #[.slice A l.length c, .int .i64 k, .slice (some ⟨g, 0, none⟩) 1 1] (W2.alloc (.cells #[.int .i64 p.id, .int .i64 p.a, .int .i64 p.b] 26)) fun e w' => ∃ A' c', e = .returned (.slice A' (l.length + 1) c') ∧ ∃ y, w' = ext W0 y ∧ Own (ext W0 y) W0.heap.size 26 3 A' (l.length + 1) c' (vp (l.take k ++ p :: l.drop k)) :=
  insert_call hown (h1.alloc _) (h0.alloc _) hB (Bel.refl _) hg (.inr (by rw [hg]; exact h1.le)) hl hk
theorem insert_callB {A : Option Addr} {c : Nat} {l : List Pt} {k : Nat} {p : Pt} {g B : Nat} {W0 W2 : World} {x : Beyond} (hown : Own (ext (W2.alloc (.cells #[.int .i64 p.id, .int .i64 p.a, .int .i64 p.b] 26)) x) B 26 3 A l.length c (vp l)) (h0 : Bel W0 W2) (hB : B = W2.heap.size + 1) (hg : g = W2.heap.size) (hl : l.length ≤ 1000000) (hk : k ≤ l.length) :
    Calls Try.prog 69 #[.slice A l.length c, .int .i64 k, .slice (some ⟨g, 0, none⟩) 1 1] (ext (W2.alloc (.cells #[.int .i64 p.id, .int .i64 p.a, .int .i64 p.b] 26)) x) fun e w' => ∃ A' c', e = .returned (.slice A' (l.length + 1) c') ∧ ∃ y, w' = ext W0 y ∧ Own (ext W0 y) W0.heap.size 26 3 A' (l.length + 1) c' (vp (l.take k ++ p :: l.drop k)) :=
  insert_call hown (Bel.refl _) ((h0.alloc _).ext _) (by have := h0.le; omega) (bel_ext _ _) hg (.inl (by omega)) hl hk
set_option maxRecDepth 10000 in
set_option maxHeartbeats 2000000 in
theorem fieldPut_any (A : Option Addr) (c : Nat) (l : List Pt) (p : Pt) (w : World) (hs : Sl w 3 A l.length c (vp l)) (hn : A = none → c = 0) :
    Calls Try.prog 19 #[.agg #[.slice A l.length c], .agg #[.int .i64 p.id, .int .i64 p.a, .int .i64 p.b]] w fun e w' => ∃ A' c', e = .returned (.tuple #[.agg #[.slice A' (fieldPut l p).1.length c'], .int .i64 (fieldPut l p).2]) ∧ ∃ x, w' = ext w x ∧ Own (ext w x) w.heap.size 26 3 A' (fieldPut l p).1.length c' (vp (fieldPut l p).1) := by
  have q := Lib.hid (fun W hb => fieldCheck_any A c l W (hs.bel (w' := W) hb))
  by_cases h : fieldChk l = 0
  · rw [h] at q
    obtain ⟨h64, hchk, hinc⟩ := fieldChk_zero h
    have q2 := Lib.hid (fun W hb => find_any A c l p.id W (hs.bel (w' := W) hb) (by omega) hinc)
    rcases pt_cases p with hp | hp
    · have e1 := Lib.hid (pchk_lit p 0 hp)
      cases hb : hasB l p.id with
      | true =>
        have HF : Hid (fieldPut l p = ([], 14)) := Lib.hid (by simp [fieldPut, h, hp, hb])
        rw [hb] at q2
        rw [HF.out]
        clear h hp hb hinc hchk
        go_enter Try.func19, Try.ntmps19
        go_wp2_with (first | (go_at_call 25; refine (q.out _ (by (try simp only [ext_ext]); repeat (first | exact Bel.refl _ | assumption | refine bel_and ?_ _ | refine bel_drews ?_ _ | refine Bel.ext ?_ _ | refine Bel.alloc ?_ _ | refine Bel.drewN ?_ _))).mono ?_; rintro e _ ⟨rfl, nx, rfl⟩) | (go_at_call 67; refine (e1.out _).mono ?_; rintro e _ ⟨rfl, nx, rfl⟩) | (go_at_call 68; refine (q2.out _ (by (try simp only [ext_ext]); repeat (first | exact Bel.refl _ | assumption | refine bel_and ?_ _ | refine bel_drews ?_ _ | refine Bel.ext ?_ _ | refine Bel.alloc ?_ _ | refine Bel.drewN ?_ _))).mono ?_; rintro e _ ⟨rfl, nx, rfl⟩))
        (refine bodyPost_ret (v := .tuple #[.agg #[.slice none 0 0], .int .i64 (14)]) (by simp [results, Try.results19, go_sem]) rfl ?_; exact ⟨_, _, rfl, nil_ret (by (try simp only [ext_ext]); repeat (first | exact Bel.refl _ | assumption | refine bel_and ?_ _ | refine bel_drews ?_ _ | refine Bel.ext ?_ _ | refine Bel.alloc ?_ _ | refine Bel.drewN ?_ _))⟩)
      | false =>
        rw [hb] at q2
        by_cases h0 : l.length = 64
        · have HF : Hid (fieldPut l p = ([], 18)) := Lib.hid (by simp [fieldPut, h, hp, hb, h0])
          rw [HF.out]
          have h0' : ((l.length : Int) == 64) = true := by rw [beq_iff_eq]; omega
          clear h hp hb hinc hchk h0
          go_enter Try.func19, Try.ntmps19
          go_wp2_with (first | (go_at_call 25; refine (q.out _ (by (try simp only [ext_ext]); repeat (first | exact Bel.refl _ | assumption | refine bel_and ?_ _ | refine bel_drews ?_ _ | refine Bel.ext ?_ _ | refine Bel.alloc ?_ _ | refine Bel.drewN ?_ _))).mono ?_; rintro e _ ⟨rfl, nx, rfl⟩) | (go_at_call 67; refine (e1.out _).mono ?_; rintro e _ ⟨rfl, nx, rfl⟩) | (go_at_call 68; refine (q2.out _ (by (try simp only [ext_ext]); repeat (first | exact Bel.refl _ | assumption | refine bel_and ?_ _ | refine bel_drews ?_ _ | refine Bel.ext ?_ _ | refine Bel.alloc ?_ _ | refine Bel.drewN ?_ _))).mono ?_; rintro e _ ⟨rfl, nx, rfl⟩))
          (refine bodyPost_ret (v := .tuple #[.agg #[.slice none 0 0], .int .i64 (18)]) (by simp [results, Try.results19, go_sem]) rfl ?_; exact ⟨_, _, rfl, nil_ret (by (try simp only [ext_ext]); repeat (first | exact Bel.refl _ | assumption | refine bel_and ?_ _ | refine bel_drews ?_ _ | refine Bel.ext ?_ _ | refine Bel.alloc ?_ _ | refine Bel.drewN ?_ _))⟩)
        · have hk := lowB_le l p.id
          have HF : Hid (fieldPut l p = (l.take (lowB l p.id) ++ p :: l.drop (lowB l p.id), 0)) := Lib.hid (by simp [fieldPut, h, hp, hb, h0])
          rw [HF.out]
          simp only [put_len l _ p hk]
          obtain ⟨k, hkk⟩ : ∃ k, lowB l p.id = k := ⟨_, rfl⟩
          rw [hkk] at q2 hk ⊢
          have h0' : ((l.length : Int) == 64) = false := by rw [beq_eq_false_iff_ne]; omega
          have q3 := Lib.hid (fun W hb => clone_any A c l W (hs.bel (w' := W) hb) hn (by omega))
          clear h hp hb hinc hchk h0 hkk HF
          go_enter Try.func19, Try.ntmps19
          go_wp2_with (first | (go_at_call 25; refine (q.out _ (by (try simp only [ext_ext]); repeat (first | exact Bel.refl _ | assumption | refine bel_and ?_ _ | refine bel_drews ?_ _ | refine Bel.ext ?_ _ | refine Bel.alloc ?_ _ | refine Bel.drewN ?_ _))).mono ?_; rintro e _ ⟨rfl, nx, rfl⟩) | (go_at_call 67; refine (e1.out _).mono ?_; rintro e _ ⟨rfl, nx, rfl⟩) | (go_at_call 68; refine (q2.out _ (by (try simp only [ext_ext]); repeat (first | exact Bel.refl _ | assumption | refine bel_and ?_ _ | refine bel_drews ?_ _ | refine Bel.ext ?_ _ | refine Bel.alloc ?_ _ | refine Bel.drewN ?_ _))).mono ?_; rintro e _ ⟨rfl, nx, rfl⟩))
          obtain ⟨W0, hW0⟩ : ∃ W0, W0 = ((w.alloc (.cells #[.slice A l.length c] 24)).alloc (.cells #[.int .i64 p.id, .int .i64 p.a, .int .i64 p.b] 26)).alloc (.cells #[.slice none 0 0] 24) := ⟨_, rfl⟩
          have hb0 : Bel w W0 := by rw [hW0]; exact (by (try simp only [ext_ext]); repeat (first | exact Bel.refl _ | assumption | refine bel_and ?_ _ | refine bel_drews ?_ _ | refine Bel.ext ?_ _ | refine Bel.alloc ?_ _ | refine Bel.drewN ?_ _))
          have z0 : w.heap.size < W0.heap.size := by rw [hW0]; simp; try omega
          have z1 : w.heap.size + 1 < W0.heap.size := by rw [hW0]; simp; try omega
          have z2 : w.heap.size + 2 < W0.heap.size := by rw [hW0]; simp; try omega
          have f0 : W0.cell? ⟨w.heap.size, 0, none⟩ = some (.slice A l.length c) := by rw [hW0]; simp [go_sem]
          have f1 : W0.cell? ⟨w.heap.size + 1, 0, none⟩ = some (.int .i64 p.id) ∧ W0.cell? ⟨w.heap.size + 1, 1, none⟩ = some (.int .i64 p.a) ∧ W0.cell? ⟨w.heap.size + 1, 2, none⟩ = some (.int .i64 p.b) := by rw [hW0]; simp [go_sem]
          have f2 : W0.cell? ⟨w.heap.size + 2, 0, none⟩ = some (.slice none 0 0) := by rw [hW0]; simp [go_sem]
          obtain ⟨g0, g1, g2⟩ := f1
          have f3 : W0.frozen? ⟨w.heap.size + 2, 0, none⟩ = false := by rw [hW0]; simp [go_sem]
          rw [← hW0]; clear hW0
          go_region_held3 (fun w' => w'.cell? ⟨w.heap.size, 0, none⟩ = some (.slice A l.length c) ∧ w'.cell? ⟨w.heap.size + 1, 0, none⟩ = some (.int .i64 p.id) ∧ w'.cell? ⟨w.heap.size + 1, 1, none⟩ = some (.int .i64 p.a) ∧ w'.cell? ⟨w.heap.size + 1, 2, none⟩ = some (.int .i64 p.b)) (simp [go_sem, *]) (first | (go_at_call 70; refine (q3.out _ (by (try simp only [ext_ext]); repeat (first | exact Bel.refl _ | assumption | refine bel_and ?_ _ | refine bel_drews ?_ _ | refine Bel.ext ?_ _ | refine Bel.alloc ?_ _ | refine Bel.drewN ?_ _))).mono ?_; rintro e _ ⟨A2, c2, rfl, x2, rfl, own2⟩; (try simp only [ext_ext, drew_ext, drewN_ext] at own2)) | (go_at_call 69; first | ((with_reducible refine (insert_callA (W0 := W0) own2 (by (try simp only [ext_ext]); repeat (first | exact Bel.refl _ | assumption | refine bel_and ?_ _ | refine bel_drews ?_ _ | refine Bel.ext ?_ _ | refine Bel.alloc ?_ _ | refine Bel.drewN ?_ _)) (by (try simp only [ext_ext]); repeat (first | exact Bel.refl _ | assumption | refine bel_and ?_ _ | refine bel_drews ?_ _ | refine Bel.ext ?_ _ | refine Bel.alloc ?_ _ | refine Bel.drewN ?_ _)) (by simp [go_sem]) (by simp [go_sem]) (by omega) hk).mono ?_); rintro e _ ⟨A3, c3, rfl, x3, rfl, own3⟩) | ((with_reducible refine (insert_callB (W0 := W0) own2 (by (try simp only [ext_ext]); repeat (first | exact Bel.refl _ | assumption | refine bel_and ?_ _ | refine bel_drews ?_ _ | refine Bel.ext ?_ _ | refine Bel.alloc ?_ _ | refine Bel.drewN ?_ _)) (by simp [go_sem]) (by simp [go_sem]) (by omega) hk).mono ?_); rintro e _ ⟨A3, c3, rfl, x3, rfl, own3⟩)))
          all_goals
            go_wp2
            have hbc : Bel w (W0.setCell ⟨w.heap.size + 1 + 1, 0, none⟩ (.slice A3 (l.length + 1) c3)) := hb0.setCell (p := ⟨w.heap.size + 1 + 1, 0, none⟩) (by show w.heap.size ≤ w.heap.size + 1 + 1; omega) _
            have hcl : (ext (W0.setCell ⟨w.heap.size + 1 + 1, 0, none⟩ (.slice A3 (l.length + 1) c3)) x3).cell? ⟨w.heap.size + 1 + 1, 0, none⟩ = some (.slice A3 (l.length + 1) c3) := by
              rw [cell_ext _ _ _ _ (by simp; omega)]; exact World.cell?_setCell_same _ _ _ f2
            refine bodyPost_ret (v := .tuple #[.agg #[.slice A3 (l.length + 1) c3], .int .i64 0]) (by simp [results, Try.results19, go_sem, hcl]) rfl ?_
            exact ⟨_, _, rfl, own_ret (hbc.ext _) (own_swap (by simp [go_sem]) own3 (Nat.le_refl _)) (Bel.refl _) (by omega)⟩
    · have e1 := Lib.hid (pchk_lit p 8 hp)
      have HF : Hid (fieldPut l p = ([], 8)) := Lib.hid (by simp [fieldPut, h, hp])
      rw [HF.out]
      clear h hp hinc hchk
      go_enter Try.func19, Try.ntmps19
      go_wp2_with (first | (go_at_call 25; refine (q.out _ (by (try simp only [ext_ext]); repeat (first | exact Bel.refl _ | assumption | refine bel_and ?_ _ | refine bel_drews ?_ _ | refine Bel.ext ?_ _ | refine Bel.alloc ?_ _ | refine Bel.drewN ?_ _))).mono ?_; rintro e _ ⟨rfl, nx, rfl⟩) | (go_at_call 67; refine (e1.out _).mono ?_; rintro e _ ⟨rfl, nx, rfl⟩))
      (refine bodyPost_ret (v := .tuple #[.agg #[.slice none 0 0], .int .i64 (8)]) (by simp [results, Try.results19, go_sem]) rfl ?_; exact ⟨_, _, rfl, nil_ret (by (try simp only [ext_ext]); repeat (first | exact Bel.refl _ | assumption | refine bel_and ?_ _ | refine bel_drews ?_ _ | refine Bel.ext ?_ _ | refine Bel.alloc ?_ _ | refine Bel.drewN ?_ _))⟩)
  · have HF : Hid (fieldPut l p = ([], fieldChk l)) := Lib.hid (by simp [fieldPut, h])
    have hz : (fieldChk l == 0) = false := by simpa using h
    have hz' : (fieldChk l != 0) = true := by simpa using h
    rw [HF.out]
    clear h
    go_enter Try.func19, Try.ntmps19
    go_wp2_with ((go_at_call 25; refine (q.out _ (by (try simp only [ext_ext]); repeat (first | exact Bel.refl _ | assumption | refine bel_and ?_ _ | refine bel_drews ?_ _ | refine Bel.ext ?_ _ | refine Bel.alloc ?_ _ | refine Bel.drewN ?_ _))).mono ?_; rintro e _ ⟨rfl, nx, rfl⟩))
    (refine bodyPost_ret (v := .tuple #[.agg #[.slice none 0 0], .int .i64 ((fieldChk l))]) (by simp [results, Try.results19, go_sem]) rfl ?_; exact ⟨_, _, rfl, nil_ret (by (try simp only [ext_ext]); repeat (first | exact Bel.refl _ | assumption | refine bel_and ?_ _ | refine bel_drews ?_ _ | refine Bel.ext ?_ _ | refine Bel.alloc ?_ _ | refine Bel.drewN ?_ _))⟩)
end Go.Proofs.Ytkcpnclgcmnlcaa
