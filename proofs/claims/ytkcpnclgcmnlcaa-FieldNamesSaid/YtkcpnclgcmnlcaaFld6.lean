/- field.Find, Put, Take, Change. -/
import Derived.Test.YtkcpnclgcmnlcaaFld5
set_option linter.unusedSimpArgs false
set_option linter.unusedVariables false
namespace Go.Proofs.Ytkcpnclgcmnlcaa
open Go.RowKit Go.Pel Go.IntWalk
theorem place_zero {l : List Pt} {id : Int} (h : (fieldPlace l id).2 = 0) : fieldChk l = 0 ∧ hasB l id = true ∧ (fieldPlace l id).1 = lowB l id := by
  unfold fieldPlace at h ⊢
  by_cases h0 : fieldChk l = 0
  · cases hb : hasB l id
    · simp [h0, hb] at h
    · simp [h0]
  · rw [if_pos h0] at h; exact absurd h h0
theorem find_eq (l : List Pt) (id : Int) : fieldFind l id = if (fieldPlace l id).2 = 0 then (l.getD (lowB l id) Pt.zero, 0) else (Pt.zero, (fieldPlace l id).2) := by
  unfold fieldFind fieldPlace
  by_cases h0 : fieldChk l = 0
  · cases hb : hasB l id <;> simp [h0]
  · simp [h0]
theorem take_eq (l : List Pt) (id : Int) : fieldTake l id = if (fieldPlace l id).2 = 0 then (l.take (lowB l id) ++ l.drop (lowB l id + 1), 0) else ([], (fieldPlace l id).2) := by
  unfold fieldTake fieldPlace
  by_cases h0 : fieldChk l = 0
  · cases hb : hasB l id <;> simp [h0]
  · simp [h0]
set_option maxRecDepth 10000 in
set_option maxHeartbeats 2000000 in
theorem fieldFind_any (A : Option Addr) (c : Nat) (l : List Pt) (id : Int) (w : World) (hs : Sl w 3 A l.length c (vp l)) :
    Calls Try.prog 17 #[.agg #[.slice A l.length c], .int .i64 id] w fun e w' => e = .returned (.tuple #[.agg #[.int .i64 (fieldFind l id).1.id, .int .i64 (fieldFind l id).1.a, .int .i64 (fieldFind l id).1.b], .int .i64 (fieldFind l id).2]) ∧ ∃ x, w' = ext w x := by
  have q := Lib.hid (fun W hb => place_any A c l id W (hs.bel (w' := W) hb))
  by_cases h : (fieldPlace l id).2 = 0
  · obtain ⟨h1, h2, h3⟩ := place_zero h
    obtain ⟨h64, hchk, hinc⟩ := fieldChk_zero h1
    obtain ⟨h4, p, hp, h5⟩ := atI_low hinc h2
    have HF : Hid (fieldFind l id = (p, 0)) := Lib.hid (by rw [find_eq, if_pos h, List.getD_eq_getElem?_getD, hp]; rfl)
    have hlt : lowB l id < l.length := (List.getElem?_eq_some_iff.1 hp).1
    rw [h3, h] at q
    obtain ⟨k, hk⟩ : ∃ k, lowB l id = k := ⟨_, rfl⟩
    rw [hk] at q hp hlt
    obtain ⟨b, o, rfl, hb⟩ := hs.at_ (by omega)
    obtain ⟨r0, r1, r2⟩ := pt_at hs hp
    have hlt' : (k : Int) < (l.length : Int) := by omega
    clear h h1 h2 h3 hk h4 h5 hchk hinc hp
    go_enter Try.func17, Try.ntmps17
    go_wp2_with ((go_at_call 65; refine (q.out _ (by (try simp only [ext_ext]); repeat (first | exact Bel.refl _ | assumption | refine bel_and ?_ _ | refine bel_drews ?_ _ | refine Bel.ext ?_ _ | refine Bel.alloc ?_ _ | refine Bel.drewN ?_ _))).mono ?_; rintro e _ ⟨rfl, nx, rfl⟩))
    exact bodyPost_ret (v := .tuple #[.agg #[.int .i64 p.id, .int .i64 p.a, .int .i64 p.b], .int .i64 0]) (by simp [results, Try.results17, go_sem]) rfl ⟨by rw [HF.out], ext_of (by (try simp only [ext_ext]); repeat (first | exact Bel.refl _ | assumption | refine bel_and ?_ _ | refine bel_drews ?_ _ | refine Bel.ext ?_ _ | refine Bel.alloc ?_ _ | refine Bel.drewN ?_ _))⟩
  · have HF : Hid (fieldFind l id = (Pt.zero, (fieldPlace l id).2)) := Lib.hid (by rw [find_eq, if_neg h])
    have hz : ((fieldPlace l id).2 == 0) = false := by simpa using h
    have hz' : ((fieldPlace l id).2 != 0) = true := by simpa using h
    clear h
    go_enter Try.func17, Try.ntmps17
    go_wp2_with ((go_at_call 65; refine (q.out _ (by (try simp only [ext_ext]); repeat (first | exact Bel.refl _ | assumption | refine bel_and ?_ _ | refine bel_drews ?_ _ | refine Bel.ext ?_ _ | refine Bel.alloc ?_ _ | refine Bel.drewN ?_ _))).mono ?_; rintro e _ ⟨rfl, nx, rfl⟩))
    exact bodyPost_ret (v := .tuple #[.agg #[.int .i64 0, .int .i64 0, .int .i64 0], .int .i64 (fieldPlace l id).2]) (by simp [results, Try.results17, go_sem]) rfl ⟨by (rw [HF.out]; rfl), ext_of (by (try simp only [ext_ext]); repeat (first | exact Bel.refl _ | assumption | refine bel_and ?_ _ | refine bel_drews ?_ _ | refine Bel.ext ?_ _ | refine Bel.alloc ?_ _ | refine Bel.drewN ?_ _))⟩
set_option maxRecDepth 10000 in
set_option maxHeartbeats 2000000 in
theorem fieldTake_any (A : Option Addr) (c : Nat) (l : List Pt) (id : Int) (w : World) (hs : Sl w 3 A l.length c (vp l)) (hn : A = none → c = 0) :
    Calls Try.prog 21 #[.agg #[.slice A l.length c], .int .i64 id] w fun e w' => ∃ A' c', e = .returned (.tuple #[.agg #[.slice A' (fieldTake l id).1.length c'], .int .i64 (fieldTake l id).2]) ∧ ∃ x, w' = ext w x ∧ Own (ext w x) w.heap.size 26 3 A' (fieldTake l id).1.length c' (vp (fieldTake l id).1) := by
  have q := Lib.hid (fun W hb => place_any A c l id W (hs.bel (w' := W) hb))
  by_cases h : (fieldPlace l id).2 = 0
  · obtain ⟨h1, h2, h3⟩ := place_zero h
    obtain ⟨h64, hchk, hinc⟩ := fieldChk_zero h1
    obtain ⟨h4, p, hp, h5⟩ := atI_low hinc h2
    have hlt : lowB l id < l.length := (List.getElem?_eq_some_iff.1 hp).1
    have hT : fieldTake l id = (l.take (lowB l id) ++ l.drop (lowB l id + 1), 0) := by rw [take_eq, if_pos h]
    have hlen : (l.take (lowB l id) ++ l.drop (lowB l id + 1)).length = l.length - 1 := by simp only [List.length_append, List.length_take, List.length_drop]; omega
    rw [hT]
    simp only [hlen]
    rw [h3, h] at q
    obtain ⟨k, hk⟩ : ∃ k, lowB l id = k := ⟨_, rfl⟩
    rw [hk] at q hp hlt ⊢
    have q2 := Lib.hid (fun W hb => clone_any A c l W (hs.bel (w' := W) hb) hn (by omega))
    clear h h1 h2 h3 hk h4 h5 hchk hinc hp hT hlen
    go_enter Try.func21, Try.ntmps21
    go_wp2_with (first | (go_at_call 65; refine (q.out _ (by (try simp only [ext_ext]); repeat (first | exact Bel.refl _ | assumption | refine bel_and ?_ _ | refine bel_drews ?_ _ | refine Bel.ext ?_ _ | refine Bel.alloc ?_ _ | refine Bel.drewN ?_ _))).mono ?_; rintro e _ ⟨rfl, nx, rfl⟩) | (go_at_call 70; refine (q2.out _ (by (try simp only [ext_ext]); repeat (first | exact Bel.refl _ | assumption | refine bel_and ?_ _ | refine bel_drews ?_ _ | refine Bel.ext ?_ _ | refine Bel.alloc ?_ _ | refine Bel.drewN ?_ _))).mono ?_; rintro e _ ⟨A2, c2, rfl, x2, rfl, own2⟩))
    obtain ⟨a, rfl⟩ : ∃ a, A2 = some ⟨a, 0, none⟩ := by
      rcases own2.row with ⟨_, h0, _⟩ | ⟨a, cur, h0, _⟩
      · omega
      · exact ⟨a, h0⟩
    simp only [ext_ext] at own2
    refine (delete_any a c2 l k _ _ (by (try simp only [ext_ext]); repeat (first | exact Bel.refl _ | assumption | refine bel_and ?_ _ | refine bel_drews ?_ _ | refine Bel.ext ?_ _ | refine Bel.alloc ?_ _ | refine Bel.drewN ?_ _)) own2 (by omega) hlt).mono ?_
    rintro e _ ⟨A3, c3, rfl, x3, rfl, own3⟩
    simp only [ext_ext] at own3
    go_wp2
    refine bodyPost_ret (v := .tuple #[.agg #[.slice A3 (l.length - 1) c3], .int .i64 0]) (by simp [results, Try.results21, go_sem]) rfl ?_
    exact ⟨_, _, rfl, own_ret (by (try simp only [ext_ext]); repeat (first | exact Bel.refl _ | assumption | refine bel_and ?_ _ | refine bel_drews ?_ _ | refine Bel.ext ?_ _ | refine Bel.alloc ?_ _ | refine Bel.drewN ?_ _)) (own_swap (by simp [go_sem]) own3 (by simp [go_sem])) (Bel.refl _) (by simp [go_sem])⟩
  · have HF : Hid (fieldTake l id = ([], (fieldPlace l id).2)) := Lib.hid (by rw [take_eq, if_neg h])
    have hz : ((fieldPlace l id).2 == 0) = false := by simpa using h
    have hz' : ((fieldPlace l id).2 != 0) = true := by simpa using h
    rw [HF.out]
    clear h
    go_enter Try.func21, Try.ntmps21
    go_wp2_with ((go_at_call 65; refine (q.out _ (by (try simp only [ext_ext]); repeat (first | exact Bel.refl _ | assumption | refine bel_and ?_ _ | refine bel_drews ?_ _ | refine Bel.ext ?_ _ | refine Bel.alloc ?_ _ | refine Bel.drewN ?_ _))).mono ?_; rintro e _ ⟨rfl, nx, rfl⟩))
    refine bodyPost_ret (v := .tuple #[.agg #[.slice none 0 0], .int .i64 (fieldPlace l id).2]) (by simp [results, Try.results21, go_sem]) rfl ?_
    exact ⟨_, _, rfl, nil_ret (by (try simp only [ext_ext]); repeat (first | exact Bel.refl _ | assumption | refine bel_and ?_ _ | refine bel_drews ?_ _ | refine Bel.ext ?_ _ | refine Bel.alloc ?_ _ | refine Bel.drewN ?_ _))⟩
end Go.Proofs.Ytkcpnclgcmnlcaa
