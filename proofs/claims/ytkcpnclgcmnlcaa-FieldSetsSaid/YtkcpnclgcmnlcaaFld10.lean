/- The reference's Find, Put, Take, Change whole. -/
import Derived.Test.YtkcpnclgcmnlcaaFld8
import Derived.Test.YtkcpnclgcmnlcaaFld9
set_option linter.unusedSimpArgs false
set_option linter.unusedVariables false

namespace Go.Proofs.Ytkcpnclgcmnlcaa
open Go.RowKit Go.Pel
theorem atI_ge {l : List Pt} {id : Int} (h : hasB l id = true) : 0 ≤ atI l id := by unfold atI; rw [h, if_pos rfl]; omega
set_option maxRecDepth 10000 in
set_option maxHeartbeats 2000000 in
theorem refFind_any (A : Option Addr) (c : Nat) (l : List Pt) (id : Int) (w : World) (hs : Sl w 3 A l.length c (vp l)) :
    Calls Try.prog 18 #[.agg #[.slice A l.length c], .int .i64 id] w fun e w' => e = .returned (.tuple #[.agg #[.int .i64 (fieldFind l id).1.id, .int .i64 (fieldFind l id).1.a, .int .i64 (fieldFind l id).1.b], .int .i64 (fieldFind l id).2]) ∧ ∃ x, w' = ext w x := by
  have q := Lib.hid (fun W hb => ref03Check_any A c l W (hs.bel (w' := W) hb))
  by_cases h : fieldChk l = 0
  · rw [h] at q
    obtain ⟨h64, hchk, hinc⟩ := fieldChk_zero h
    have q2 := Lib.hid (fun W hb => at03_any A c l id W (hs.bel (w' := W) hb) (by omega))
    cases hb : hasB l id with
    | true =>
      obtain ⟨h4, p, hp, h5⟩ := atI_low hinc hb
      have HF : Hid (fieldFind l id = (p, 0)) := Lib.hid (by simp [fieldFind, h, hb, hp])
      have hlt : lowB l id < l.length := (List.getElem?_eq_some_iff.1 hp).1
      rw [h4] at q2
      obtain ⟨k, hk⟩ : ∃ k, lowB l id = k := ⟨_, rfl⟩
      rw [hk] at q2 hp hlt
      obtain ⟨b, o, rfl, hbb⟩ := hs.at_ (by omega)
      obtain ⟨r0, r1, r2⟩ := pt_at hs hp
      have hlt' : (k : Int) < (l.length : Int) := by omega
      have hk0 : (0 : Int) ≤ (k : Int) := by omega
      clear h hchk hinc hb h4 hp h5 hk
      go_enter Try.func18, Try.ntmps18
      go_wp2_with (first | (go_at_call 26; refine (q.out _ (by (try simp only [ext_ext]); repeat (first | exact Bel.refl _ | assumption | refine bel_and ?_ _ | refine bel_drews ?_ _ | refine Bel.ext ?_ _ | refine Bel.alloc ?_ _ | refine Bel.drewN ?_ _))).mono ?_; rintro e _ ⟨rfl, nx, rfl⟩) | (go_at_call 66; refine (q2.out _ (by (try simp only [ext_ext]); repeat (first | exact Bel.refl _ | assumption | refine bel_and ?_ _ | refine bel_drews ?_ _ | refine Bel.ext ?_ _ | refine Bel.alloc ?_ _ | refine Bel.drewN ?_ _))).mono ?_; rintro e _ ⟨rfl, nx, rfl⟩))
      exact bodyPost_ret (v := .tuple #[.agg #[.int .i64 p.id, .int .i64 p.a, .int .i64 p.b], .int .i64 0]) (by simp [results, Try.results18, go_sem]) rfl ⟨by rw [HF.out], ext_of (by (try simp only [ext_ext]); repeat (first | exact Bel.refl _ | assumption | refine bel_and ?_ _ | refine bel_drews ?_ _ | refine Bel.ext ?_ _ | refine Bel.alloc ?_ _ | refine Bel.drewN ?_ _))⟩
    | false =>
      have HF : Hid (fieldFind l id = (Pt.zero, 6)) := Lib.hid (by simp [fieldFind, h, hb])
      rw [atI_no hb] at q2
      clear h hchk hinc hb
      go_enter Try.func18, Try.ntmps18
      go_wp2_with (first | (go_at_call 26; refine (q.out _ (by (try simp only [ext_ext]); repeat (first | exact Bel.refl _ | assumption | refine bel_and ?_ _ | refine bel_drews ?_ _ | refine Bel.ext ?_ _ | refine Bel.alloc ?_ _ | refine Bel.drewN ?_ _))).mono ?_; rintro e _ ⟨rfl, nx, rfl⟩) | (go_at_call 66; refine (q2.out _ (by (try simp only [ext_ext]); repeat (first | exact Bel.refl _ | assumption | refine bel_and ?_ _ | refine bel_drews ?_ _ | refine Bel.ext ?_ _ | refine Bel.alloc ?_ _ | refine Bel.drewN ?_ _))).mono ?_; rintro e _ ⟨rfl, nx, rfl⟩))
      exact bodyPost_ret (v := .tuple #[.agg #[.int .i64 0, .int .i64 0, .int .i64 0], .int .i64 6]) (by simp [results, Try.results18, go_sem]) rfl ⟨by (rw [HF.out]; rfl), ext_of (by (try simp only [ext_ext]); repeat (first | exact Bel.refl _ | assumption | refine bel_and ?_ _ | refine bel_drews ?_ _ | refine Bel.ext ?_ _ | refine Bel.alloc ?_ _ | refine Bel.drewN ?_ _))⟩
  · have HF : Hid (fieldFind l id = (Pt.zero, fieldChk l)) := Lib.hid (by simp [fieldFind, h])
    have hz : (fieldChk l == 0) = false := by simpa using h
    have hz' : (fieldChk l != 0) = true := by simpa using h
    clear h
    go_enter Try.func18, Try.ntmps18
    go_wp2_with ((go_at_call 26; refine (q.out _ (by (try simp only [ext_ext]); repeat (first | exact Bel.refl _ | assumption | refine bel_and ?_ _ | refine bel_drews ?_ _ | refine Bel.ext ?_ _ | refine Bel.alloc ?_ _ | refine Bel.drewN ?_ _))).mono ?_; rintro e _ ⟨rfl, nx, rfl⟩))
    exact bodyPost_ret (v := .tuple #[.agg #[.int .i64 0, .int .i64 0, .int .i64 0], .int .i64 (fieldChk l)]) (by simp [results, Try.results18, go_sem]) rfl ⟨by (rw [HF.out]; rfl), ext_of (by (try simp only [ext_ext]); repeat (first | exact Bel.refl _ | assumption | refine bel_and ?_ _ | refine bel_drews ?_ _ | refine Bel.ext ?_ _ | refine Bel.alloc ?_ _ | refine Bel.drewN ?_ _))⟩
theorem woB_take {l : List Pt} {id : Int} (hinc : incB l = true) (hb : hasB l id = true) : woB l id = l.take (lowB l id) ++ l.drop (lowB l id + 1) := by
  obtain ⟨_, p, hp, hid⟩ := atI_low hinc hb
  have hlt : lowB l id < l.length := (List.getElem?_eq_some_iff.1 hp).1
  have e : l = l.take (lowB l id) ++ p :: l.drop (lowB l id + 1) := by
    rw [List.getElem?_eq_some_iff] at hp
    obtain ⟨h, hp⟩ := hp
    rw [← hp, ← List.drop_eq_getElem_cons h, List.take_append_drop]
  have h1 : ∀ q ∈ l.take (lowB l id), decide (q.id ≠ id) = true := by
    intro q hq
    obtain ⟨i, hi⟩ := List.getElem?_of_mem hq
    rw [List.getElem?_take] at hi
    split at hi
    · have := lowB_lt ‹_› hi; simp; omega
    · cases hi
  have h2 : ∀ q ∈ l.drop (lowB l id + 1), decide (q.id ≠ id) = true := by
    intro q hq
    obtain ⟨i, hi⟩ := List.getElem?_of_mem hq
    rw [List.getElem?_drop] at hi
    have := inc_lt hinc (show lowB l id < lowB l id + 1 + i by omega) hp hi
    simp; omega
  unfold woB
  conv => lhs; rw [e]
  rw [List.filter_append, List.filter_cons_of_neg (by simpa using hid), List.filter_eq_self.2 h1, List.filter_eq_self.2 h2]
set_option maxRecDepth 10000 in
set_option maxHeartbeats 2000000 in
theorem refTake_any (A : Option Addr) (c : Nat) (l : List Pt) (id : Int) (w : World) (hs : Sl w 3 A l.length c (vp l)) :
    Calls Try.prog 22 #[.agg #[.slice A l.length c], .int .i64 id] w fun e w' => ∃ A' c', e = .returned (.tuple #[.agg #[.slice A' (fieldTake l id).1.length c'], .int .i64 (fieldTake l id).2]) ∧ ∃ x, w' = ext w x ∧ Own (ext w x) w.heap.size 26 3 A' (fieldTake l id).1.length c' (vp (fieldTake l id).1) := by
  have q := Lib.hid (fun W hb => ref03Check_any A c l W (hs.bel (w' := W) hb))
  by_cases h : fieldChk l = 0
  · rw [h] at q
    obtain ⟨h64, hchk, hinc⟩ := fieldChk_zero h
    have q2 := Lib.hid (fun W hb => at03_any A c l id W (hs.bel (w' := W) hb) (by omega))
    have q3 := Lib.hid (fun W hb => without_any A c l id W (hs.bel (w' := W) hb) (by omega))
    cases hb : hasB l id with
    | true =>
      have hT : fieldTake l id = (woB l id, 0) := by rw [woB_take hinc hb]; simp [fieldTake, h, hb]
      rw [hT]
      have hi : ¬ atI l id < 0 := by have := atI_ge hb; omega
      obtain ⟨i, hI⟩ : ∃ i, atI l id = i := ⟨_, rfl⟩
      rw [hI] at q2 hi
      obtain ⟨R, hR⟩ : ∃ R, woB l id = R := ⟨_, rfl⟩
      rw [hR] at q3 ⊢
      clear h hchk hinc hb hT hI hR
      go_enter Try.func22, Try.ntmps22
      go_wp2_with (first | (go_at_call 26; refine (q.out _ (by (try simp only [ext_ext]); repeat (first | exact Bel.refl _ | assumption | refine bel_and ?_ _ | refine bel_drews ?_ _ | refine Bel.ext ?_ _ | refine Bel.alloc ?_ _ | refine Bel.drewN ?_ _))).mono ?_; rintro e _ ⟨rfl, nx, rfl⟩) | (go_at_call 66; refine (q2.out _ (by (try simp only [ext_ext]); repeat (first | exact Bel.refl _ | assumption | refine bel_and ?_ _ | refine bel_drews ?_ _ | refine Bel.ext ?_ _ | refine Bel.alloc ?_ _ | refine Bel.drewN ?_ _))).mono ?_; rintro e _ ⟨rfl, nx, rfl⟩) | (go_at_call 72; refine (q3.out _ (by (try simp only [ext_ext]); repeat (first | exact Bel.refl _ | assumption | refine bel_and ?_ _ | refine bel_drews ?_ _ | refine Bel.ext ?_ _ | refine Bel.alloc ?_ _ | refine Bel.drewN ?_ _))).mono ?_; rintro e _ ⟨A2, c2, rfl, x2, rfl, own2⟩; simp only [ext_ext] at own2))
      refine bodyPost_ret (v := .tuple #[.agg #[.slice A2 R.length c2], .int .i64 0]) (by simp [results, Try.results22, go_sem]) rfl ?_
      exact ⟨_, _, rfl, own_ret (by (try simp only [ext_ext]); repeat (first | exact Bel.refl _ | assumption | refine bel_and ?_ _ | refine bel_drews ?_ _ | refine Bel.ext ?_ _ | refine Bel.alloc ?_ _ | refine Bel.drewN ?_ _)) (own_swap (by simp [go_sem]) own2 (by simp [go_sem])) (Bel.refl _) (by simp [go_sem])⟩
    | false =>
      have hT : fieldTake l id = ([], 6) := by simp [fieldTake, h, hb]
      rw [hT]
      rw [atI_no hb] at q2
      clear h hchk hinc hb hT
      go_enter Try.func22, Try.ntmps22
      go_wp2_with (first | (go_at_call 26; refine (q.out _ (by (try simp only [ext_ext]); repeat (first | exact Bel.refl _ | assumption | refine bel_and ?_ _ | refine bel_drews ?_ _ | refine Bel.ext ?_ _ | refine Bel.alloc ?_ _ | refine Bel.drewN ?_ _))).mono ?_; rintro e _ ⟨rfl, nx, rfl⟩) | (go_at_call 66; refine (q2.out _ (by (try simp only [ext_ext]); repeat (first | exact Bel.refl _ | assumption | refine bel_and ?_ _ | refine bel_drews ?_ _ | refine Bel.ext ?_ _ | refine Bel.alloc ?_ _ | refine Bel.drewN ?_ _))).mono ?_; rintro e _ ⟨rfl, nx, rfl⟩))
      (refine bodyPost_ret (v := .tuple #[.agg #[.slice none 0 0], .int .i64 (6)]) (by simp [results, Try.results22, go_sem]) rfl ?_; exact ⟨_, _, rfl, nil_ret (by (try simp only [ext_ext]); repeat (first | exact Bel.refl _ | assumption | refine bel_and ?_ _ | refine bel_drews ?_ _ | refine Bel.ext ?_ _ | refine Bel.alloc ?_ _ | refine Bel.drewN ?_ _))⟩)
  · have hT : fieldTake l id = ([], fieldChk l) := by simp [fieldTake, h]
    rw [hT]
    have hz : (fieldChk l == 0) = false := by simpa using h
    have hz' : (fieldChk l != 0) = true := by simpa using h
    clear h hT
    go_enter Try.func22, Try.ntmps22
    go_wp2_with ((go_at_call 26; refine (q.out _ (by (try simp only [ext_ext]); repeat (first | exact Bel.refl _ | assumption | refine bel_and ?_ _ | refine bel_drews ?_ _ | refine Bel.ext ?_ _ | refine Bel.alloc ?_ _ | refine Bel.drewN ?_ _))).mono ?_; rintro e _ ⟨rfl, nx, rfl⟩))
    (refine bodyPost_ret (v := .tuple #[.agg #[.slice none 0 0], .int .i64 (fieldChk l)]) (by simp [results, Try.results22, go_sem]) rfl ?_; exact ⟨_, _, rfl, nil_ret (by (try simp only [ext_ext]); repeat (first | exact Bel.refl _ | assumption | refine bel_and ?_ _ | refine bel_drews ?_ _ | refine Bel.ext ?_ _ | refine Bel.alloc ?_ _ | refine Bel.drewN ?_ _))⟩)
set_option maxRecDepth 10000 in
set_option maxHeartbeats 2000000 in
theorem refPut_any (A : Option Addr) (c : Nat) (l : List Pt) (p : Pt) (w : World) (hs : Sl w 3 A l.length c (vp l)) :
    Calls Try.prog 20 #[.agg #[.slice A l.length c], .agg #[.int .i64 p.id, .int .i64 p.a, .int .i64 p.b]] w fun e w' => ∃ A' c', e = .returned (.tuple #[.agg #[.slice A' (fieldPut l p).1.length c'], .int .i64 (fieldPut l p).2]) ∧ ∃ x, w' = ext w x ∧ Own (ext w x) w.heap.size 26 3 A' (fieldPut l p).1.length c' (vp (fieldPut l p).1) := by
  have q := Lib.hid (fun W hb => ref03Check_any A c l W (hs.bel (w' := W) hb))
  by_cases h : fieldChk l = 0
  · rw [h] at q
    obtain ⟨h64, hchk, hinc⟩ := fieldChk_zero h
    have q2 := Lib.hid (fun W hb => at03_any A c l p.id W (hs.bel (w' := W) hb) (by omega))
    rcases pt_cases p with hp | hp
    · have e1 := Lib.hid (pchk2_lit p 0 hp)
      cases hb : hasB l p.id with
      | true =>
        have hT : fieldPut l p = ([], 14) := by simp [fieldPut, h, hp, hb]
        rw [hT]
        have hi : 0 ≤ atI l p.id := atI_ge hb
        obtain ⟨i, hI⟩ : ∃ i, atI l p.id = i := ⟨_, rfl⟩
        rw [hI] at q2 hi
        clear h hchk hinc hb hT hI hp
        go_enter Try.func20, Try.ntmps20
        go_wp2_with (first | (go_at_call 26; refine (q.out _ (by (try simp only [ext_ext]); repeat (first | exact Bel.refl _ | assumption | refine bel_and ?_ _ | refine bel_drews ?_ _ | refine Bel.ext ?_ _ | refine Bel.alloc ?_ _ | refine Bel.drewN ?_ _))).mono ?_; rintro e _ ⟨rfl, nx, rfl⟩) | (go_at_call 61; refine (e1.out _).mono ?_; rintro e _ ⟨rfl, nx, rfl⟩) | (go_at_call 66; refine (q2.out _ (by (try simp only [ext_ext]); repeat (first | exact Bel.refl _ | assumption | refine bel_and ?_ _ | refine bel_drews ?_ _ | refine Bel.ext ?_ _ | refine Bel.alloc ?_ _ | refine Bel.drewN ?_ _))).mono ?_; rintro e _ ⟨rfl, nx, rfl⟩))
        (refine bodyPost_ret (v := .tuple #[.agg #[.slice none 0 0], .int .i64 (14)]) (by simp [results, Try.results20, go_sem]) rfl ?_; exact ⟨_, _, rfl, nil_ret (by (try simp only [ext_ext]); repeat (first | exact Bel.refl _ | assumption | refine bel_and ?_ _ | refine bel_drews ?_ _ | refine Bel.ext ?_ _ | refine Bel.alloc ?_ _ | refine Bel.drewN ?_ _))⟩)
      | false =>
        by_cases h0 : l.length = 64
        · have hT : fieldPut l p = ([], 18) := by simp [fieldPut, h, hp, hb, h0]
          rw [hT]
          rw [atI_no hb] at q2
          have h0' : ((l.length : Int) == 64) = true := by rw [beq_iff_eq]; omega
          clear h hchk hinc hb hT hp h0
          go_enter Try.func20, Try.ntmps20
          go_wp2_with (first | (go_at_call 26; refine (q.out _ (by (try simp only [ext_ext]); repeat (first | exact Bel.refl _ | assumption | refine bel_and ?_ _ | refine bel_drews ?_ _ | refine Bel.ext ?_ _ | refine Bel.alloc ?_ _ | refine Bel.drewN ?_ _))).mono ?_; rintro e _ ⟨rfl, nx, rfl⟩) | (go_at_call 61; refine (e1.out _).mono ?_; rintro e _ ⟨rfl, nx, rfl⟩) | (go_at_call 66; refine (q2.out _ (by (try simp only [ext_ext]); repeat (first | exact Bel.refl _ | assumption | refine bel_and ?_ _ | refine bel_drews ?_ _ | refine Bel.ext ?_ _ | refine Bel.alloc ?_ _ | refine Bel.drewN ?_ _))).mono ?_; rintro e _ ⟨rfl, nx, rfl⟩))
          (refine bodyPost_ret (v := .tuple #[.agg #[.slice none 0 0], .int .i64 (18)]) (by simp [results, Try.results20, go_sem]) rfl ?_; exact ⟨_, _, rfl, nil_ret (by (try simp only [ext_ext]); repeat (first | exact Bel.refl _ | assumption | refine bel_and ?_ _ | refine bel_drews ?_ _ | refine Bel.ext ?_ _ | refine Bel.alloc ?_ _ | refine Bel.drewN ?_ _))⟩)
        · have hT : fieldPut l p = (l.take (lowB l p.id) ++ p :: l.drop (lowB l p.id), 0) := by simp [fieldPut, h, hp, hb, h0]
          rw [hT]
          exact refPut_ok A c l p w hs h hp hb h0
    · have e1 := Lib.hid (pchk2_lit p 8 hp)
      have hT : fieldPut l p = ([], 8) := by simp [fieldPut, h, hp]
      rw [hT]
      clear h hchk hinc hT hp
      go_enter Try.func20, Try.ntmps20
      go_wp2_with (first | (go_at_call 26; refine (q.out _ (by (try simp only [ext_ext]); repeat (first | exact Bel.refl _ | assumption | refine bel_and ?_ _ | refine bel_drews ?_ _ | refine Bel.ext ?_ _ | refine Bel.alloc ?_ _ | refine Bel.drewN ?_ _))).mono ?_; rintro e _ ⟨rfl, nx, rfl⟩) | (go_at_call 61; refine (e1.out _).mono ?_; rintro e _ ⟨rfl, nx, rfl⟩))
      (refine bodyPost_ret (v := .tuple #[.agg #[.slice none 0 0], .int .i64 (8)]) (by simp [results, Try.results20, go_sem]) rfl ?_; exact ⟨_, _, rfl, nil_ret (by (try simp only [ext_ext]); repeat (first | exact Bel.refl _ | assumption | refine bel_and ?_ _ | refine bel_drews ?_ _ | refine Bel.ext ?_ _ | refine Bel.alloc ?_ _ | refine Bel.drewN ?_ _))⟩)
  · have hT : fieldPut l p = ([], fieldChk l) := by simp [fieldPut, h]
    rw [hT]
    have hz : (fieldChk l == 0) = false := by simpa using h
    have hz' : (fieldChk l != 0) = true := by simpa using h
    clear h hT
    go_enter Try.func20, Try.ntmps20
    go_wp2_with ((go_at_call 26; refine (q.out _ (by (try simp only [ext_ext]); repeat (first | exact Bel.refl _ | assumption | refine bel_and ?_ _ | refine bel_drews ?_ _ | refine Bel.ext ?_ _ | refine Bel.alloc ?_ _ | refine Bel.drewN ?_ _))).mono ?_; rintro e _ ⟨rfl, nx, rfl⟩))
    (refine bodyPost_ret (v := .tuple #[.agg #[.slice none 0 0], .int .i64 (fieldChk l)]) (by simp [results, Try.results20, go_sem]) rfl ?_; exact ⟨_, _, rfl, nil_ret (by (try simp only [ext_ext]); repeat (first | exact Bel.refl _ | assumption | refine bel_and ?_ _ | refine bel_drews ?_ _ | refine Bel.ext ?_ _ | refine Bel.alloc ?_ _ | refine Bel.drewN ?_ _))⟩)
set_option maxRecDepth 10000 in
set_option maxHeartbeats 2000000 in
theorem refChange_any (A : Option Addr) (c : Nat) (l : List Pt) (p : Pt) (w : World) (hs : Sl w 3 A l.length c (vp l)) (hn : A = none → c = 0) :
    Calls Try.prog 24 #[.agg #[.slice A l.length c], .agg #[.int .i64 p.id, .int .i64 p.a, .int .i64 p.b]] w fun e w' => ∃ A' c', e = .returned (.tuple #[.agg #[.slice A' (fieldChange l p).1.length c'], .int .i64 (fieldChange l p).2]) ∧ ∃ x, w' = ext w x ∧ Own (ext w x) w.heap.size 26 3 A' (fieldChange l p).1.length c' (vp (fieldChange l p).1) := by
  have q := Lib.hid (fun W hb => ref03Check_any A c l W (hs.bel (w' := W) hb))
  by_cases h : fieldChk l = 0
  · rw [h] at q
    obtain ⟨h64, hchk, hinc⟩ := fieldChk_zero h
    have q2 := Lib.hid (fun W hb => at03_any A c l p.id W (hs.bel (w' := W) hb) (by omega))
    rcases pt_cases p with hp | hp
    · have e1 := Lib.hid (pchk2_lit p 0 hp)
      cases hb : hasB l p.id with
      | true =>
        obtain ⟨h4, q0, hp0, h5⟩ := atI_low hinc hb
        have hlt : lowB l p.id < l.length := (List.getElem?_eq_some_iff.1 hp0).1
        have hT : fieldChange l p = (l.set (lowB l p.id) p, 0) := by simp [fieldChange, h, hp, hb]
        rw [hT]
        rw [h4] at q2
        simp only [List.length_set]
        rw [vp_set]
        obtain ⟨k, hk⟩ : ∃ k, lowB l p.id = k := ⟨_, rfl⟩
        rw [hk] at q2 hlt hp0 ⊢
        have hlt' : (k : Int) < (l.length : Int) := by omega
        have hk0 : (0 : Int) ≤ (k : Int) := by omega
        have HQ : Hid ((vp l)[k * 3]? = some (.int .i64 q0.id) ∧ (vp l)[k * 3 + 1]? = some (.int .i64 q0.a) ∧ (vp l)[k * 3 + 2]? = some (.int .i64 q0.b)) := Lib.hid ⟨fl_at pt_len hp0 0 (by omega), fl_at pt_len hp0 1 (by omega), fl_at pt_len hp0 2 (by omega)⟩
        have q3 := Lib.hid (fun W hb => twin_any A c l W (hs.bel (w' := W) hb) hn (by omega))
        clear h hp hb hinc hchk hT hk h4 h5 hp0
        go_enter Try.func24, Try.ntmps24
        go_wp2_with (first | (go_at_call 26; refine (q.out _ (by (try simp only [ext_ext]); repeat (first | exact Bel.refl _ | assumption | refine bel_and ?_ _ | refine bel_drews ?_ _ | refine Bel.ext ?_ _ | refine Bel.alloc ?_ _ | refine Bel.drewN ?_ _))).mono ?_; rintro e _ ⟨rfl, n1, rfl⟩) | (go_at_call 61; refine (e1.out _).mono ?_; rintro e _ ⟨rfl, n2, rfl⟩) | (go_at_call 66; refine (q2.out _ (by (try simp only [ext_ext]); repeat (first | exact Bel.refl _ | assumption | refine bel_and ?_ _ | refine bel_drews ?_ _ | refine Bel.ext ?_ _ | refine Bel.alloc ?_ _ | refine Bel.drewN ?_ _))).mono ?_; rintro e _ ⟨rfl, n3, rfl⟩))
        refine (q3.out _ (by (try simp only [ext_ext]); repeat (first | exact Bel.refl _ | assumption | refine bel_and ?_ _ | refine bel_drews ?_ _ | refine Bel.ext ?_ _ | refine Bel.alloc ?_ _ | refine Bel.drewN ?_ _))).mono ?_
        rintro e _ ⟨A2, c2, rfl, x2, rfl, own2⟩
        obtain ⟨a, rfl⟩ : ∃ a, A2 = some ⟨a, 0, none⟩ := by
          rcases own2.row with ⟨_, h0, _⟩ | ⟨a, cur, h0, _⟩
          · omega
          · exact ⟨a, h0⟩
        have HG : Hid (w.heap.size + 1 + 1 + 1 ≤ a ∧ a < (ext (ext (((w.alloc (.cells #[.slice A l.length c] 24)).alloc (.cells #[.int .i64 p.id, .int .i64 p.a, .int .i64 p.b] 26)).alloc (.cells #[.slice none 0 0] 24)) ((n1.and n2).and n3)) x2).heap.size) := Lib.hid (by
          rcases own2.row with ⟨h, _⟩ | ⟨a', cur, h, hr, _⟩
          · cases h
          · have e1 : a = a' := by injection h with h; injection h
            have h1 := hr.1
            have h2 := hr.lt
            rw [e1]
            simp [go_sem] at h1 h2 ⊢
            omega)
        simp only [ext_ext] at own2 HG ⊢
        generalize hZ : ((n1.and n2).and n3).and x2 = Z at own2 HG ⊢
        obtain ⟨W2, hW2⟩ : ∃ W2, ext (((w.alloc (.cells #[.slice A l.length c] 24)).alloc (.cells #[.int .i64 p.id, .int .i64 p.a, .int .i64 p.b] 26)).alloc (.cells #[.slice none 0 0] 24)) Z = W2 := ⟨_, rfl⟩
        rw [hW2] at own2 HG ⊢
        have hb2 : Bel w W2 := by rw [← hW2]; exact (by (try simp only [ext_ext]); repeat (first | exact Bel.refl _ | assumption | refine bel_and ?_ _ | refine bel_drews ?_ _ | refine Bel.ext ?_ _ | refine Bel.alloc ?_ _ | refine Bel.drewN ?_ _))
        have s0 : w.heap.size < W2.heap.size := by rw [← hW2]; simp [go_sem]
        have s1 : w.heap.size + 1 < W2.heap.size := by rw [← hW2]; simp [go_sem]
        have s2 : w.heap.size + 2 < W2.heap.size := by rw [← hW2]; simp [go_sem]
        have s3 : a < W2.heap.size := HG.out.2
        have f1 : W2.cell? ⟨w.heap.size + 1, 0, none⟩ = some (.int .i64 p.id) ∧ W2.cell? ⟨w.heap.size + 1, 1, none⟩ = some (.int .i64 p.a) ∧ W2.cell? ⟨w.heap.size + 1, 2, none⟩ = some (.int .i64 p.b) := by rw [← hW2]; simp [go_sem]
        have f2 : W2.cell? ⟨w.heap.size + 1 + 1, 0, none⟩ = some (.slice none 0 0) := by rw [← hW2]; simp [go_sem]
        have f3 : W2.frozen? ⟨w.heap.size + 1 + 1, 0, none⟩ = false := by rw [← hW2]; simp [go_sem]
        obtain ⟨g0, g1, g2⟩ := f1
        have b0 := own_cell own2 (j := k * 3) (u := .int .i64 q0.id) HQ.out.1
        have b1 := own_cell own2 (j := k * 3 + 1) (u := .int .i64 q0.a) HQ.out.2.1
        have b2 := own_cell own2 (j := k * 3 + 2) (u := .int .i64 q0.b) HQ.out.2.2
        have z0 := own_frozen own2 (k * 3)
        have z1 := own_frozen own2 (k * 3 + 1)
        have z2 := own_frozen own2 (k * 3 + 2)
        have hne1 : w.heap.size + 1 ≠ a := by have := HG.out; omega
        have hne2 : w.heap.size + 1 + 1 ≠ a := by have := HG.out; omega
        have hne3 : ¬ a = w.heap.size + 1 + 1 := by have := HG.out; omega
        clear hW2 hZ
        go_wp2
        have o1 := (World.ownsRow.stored own2 (k * 3) (.int .i64 p.id)).1
        have o2 := (World.ownsRow.stored o1 (k * 3 + 1) (.int .i64 p.a)).1
        have o3 := (World.ownsRow.stored o2 (k * 3 + 2) (.int .i64 p.b)).1
        have o4 := own_other (b := w.heap.size + 1 + 1) (o := 0) o3 (.slice (some ⟨a, 0, none⟩) l.length c2) (fun g h => block_ne hne2 h)
        have hga := HG.out
        have hb3 := ((((hb2.setCell (p := ⟨a, k * 3, none⟩) (by show w.heap.size ≤ a; omega) (.int .i64 p.id)).setCell (p := ⟨a, k * 3 + 1, none⟩) (by show w.heap.size ≤ a; omega) (.int .i64 p.a)).setCell (p := ⟨a, k * 3 + 2, none⟩) (by show w.heap.size ≤ a; omega) (.int .i64 p.b)).setCell (p := ⟨w.heap.size + 1 + 1, 0, none⟩) (by show w.heap.size ≤ w.heap.size + 1 + 1; omega) (.slice (some ⟨a, 0, none⟩) l.length c2)).alloc (.cells #[.slice (some ⟨a, 0, none⟩) l.length c2] 24)
        refine bodyPost_ret (v := .tuple #[.agg #[.slice (some ⟨a, 0, none⟩) l.length c2], .int .i64 0]) (by simp [results, Try.results24, go_sem, *]) rfl ?_
        exact ⟨_, _, rfl, own_ret hb3 (World.ownsRow.alloc o4 _) (Bel.refl _) (by simp [go_sem]; try omega)⟩
      | false =>
        have hT : fieldChange l p = ([], 6) := by simp [fieldChange, h, hp, hb]
        rw [hT]
        rw [atI_no hb] at q2
        clear h hp hb hinc hchk hT
        go_enter Try.func24, Try.ntmps24
        go_wp2_with (first | (go_at_call 26; refine (q.out _ (by (try simp only [ext_ext]); repeat (first | exact Bel.refl _ | assumption | refine bel_and ?_ _ | refine bel_drews ?_ _ | refine Bel.ext ?_ _ | refine Bel.alloc ?_ _ | refine Bel.drewN ?_ _))).mono ?_; rintro e _ ⟨rfl, nx, rfl⟩) | (go_at_call 61; refine (e1.out _).mono ?_; rintro e _ ⟨rfl, nx, rfl⟩) | (go_at_call 66; refine (q2.out _ (by (try simp only [ext_ext]); repeat (first | exact Bel.refl _ | assumption | refine bel_and ?_ _ | refine bel_drews ?_ _ | refine Bel.ext ?_ _ | refine Bel.alloc ?_ _ | refine Bel.drewN ?_ _))).mono ?_; rintro e _ ⟨rfl, nx, rfl⟩))
        (refine bodyPost_ret (v := .tuple #[.agg #[.slice none 0 0], .int .i64 (6)]) (by simp [results, Try.results24, go_sem]) rfl ?_; exact ⟨_, _, rfl, nil_ret (by (try simp only [ext_ext]); repeat (first | exact Bel.refl _ | assumption | refine bel_and ?_ _ | refine bel_drews ?_ _ | refine Bel.ext ?_ _ | refine Bel.alloc ?_ _ | refine Bel.drewN ?_ _))⟩)
    · have e1 := Lib.hid (pchk2_lit p 8 hp)
      have hT : fieldChange l p = ([], 8) := by simp [fieldChange, h, hp]
      rw [hT]
      clear h hp hinc hchk hT
      go_enter Try.func24, Try.ntmps24
      go_wp2_with (first | (go_at_call 26; refine (q.out _ (by (try simp only [ext_ext]); repeat (first | exact Bel.refl _ | assumption | refine bel_and ?_ _ | refine bel_drews ?_ _ | refine Bel.ext ?_ _ | refine Bel.alloc ?_ _ | refine Bel.drewN ?_ _))).mono ?_; rintro e _ ⟨rfl, nx, rfl⟩) | (go_at_call 61; refine (e1.out _).mono ?_; rintro e _ ⟨rfl, nx, rfl⟩))
      (refine bodyPost_ret (v := .tuple #[.agg #[.slice none 0 0], .int .i64 (8)]) (by simp [results, Try.results24, go_sem]) rfl ?_; exact ⟨_, _, rfl, nil_ret (by (try simp only [ext_ext]); repeat (first | exact Bel.refl _ | assumption | refine bel_and ?_ _ | refine bel_drews ?_ _ | refine Bel.ext ?_ _ | refine Bel.alloc ?_ _ | refine Bel.drewN ?_ _))⟩)
  · have hT : fieldChange l p = ([], fieldChk l) := by simp [fieldChange, h]
    have hz : (fieldChk l == 0) = false := by simpa using h
    have hz' : (fieldChk l != 0) = true := by simpa using h
    rw [hT]
    clear h hT
    go_enter Try.func24, Try.ntmps24
    go_wp2_with ((go_at_call 26; refine (q.out _ (by (try simp only [ext_ext]); repeat (first | exact Bel.refl _ | assumption | refine bel_and ?_ _ | refine bel_drews ?_ _ | refine Bel.ext ?_ _ | refine Bel.alloc ?_ _ | refine Bel.drewN ?_ _))).mono ?_; rintro e _ ⟨rfl, nx, rfl⟩))
    (refine bodyPost_ret (v := .tuple #[.agg #[.slice none 0 0], .int .i64 (fieldChk l)]) (by simp [results, Try.results24, go_sem]) rfl ?_; exact ⟨_, _, rfl, nil_ret (by (try simp only [ext_ext]); repeat (first | exact Bel.refl _ | assumption | refine bel_and ?_ _ | refine bel_drews ?_ _ | refine Bel.ext ?_ _ | refine Bel.alloc ?_ _ | refine Bel.drewN ?_ _))⟩)
end Go.Proofs.Ytkcpnclgcmnlcaa
