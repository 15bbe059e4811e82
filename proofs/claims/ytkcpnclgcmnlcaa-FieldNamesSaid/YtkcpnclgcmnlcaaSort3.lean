/- field.sorted. -/
import Derived.Test.YtkcpnclgcmnlcaaSort2
import Derived.Test.YtkcpnclgcmnlcaaFld6
set_option linter.unusedSimpArgs false
set_option linter.unusedVariables false
namespace Go.Pel
def fieldSorted (l : List Pt) (n d : Int) : List Pt × Int := if fieldChk l ≠ 0 then ([], fieldChk l) else if ratioChk n d ≠ 0 then ([], ratioChk n d) else (sortP n d l, 0)
theorem idsApart_inc {l : List Pt} (h : incB l = true) : IdsApart l := by
  intro p hp q hq he
  obtain ⟨i, hi⟩ := List.mem_iff_getElem?.1 hp
  obtain ⟨j, hj⟩ := List.mem_iff_getElem?.1 hq
  rcases (by omega : i < j ∨ j < i ∨ i = j) with k | k | k
  · have := inc_lt h k hi hj; omega
  · have := inc_lt h k hj hi; omega
  · subst k; rw [hi] at hj; exact Option.some.inj hj
end Go.Pel
namespace Go.Proofs.Ytkcpnclgcmnlcaa
open Go.RowKit Go.Pel
set_option maxRecDepth 10000 in
set_option maxHeartbeats 2000000 in
theorem sorted_any (A : Option Addr) (c : Nat) (l : List Pt) (n d : Int) (w : World) (hn : -9223372036854775808 ≤ n ∧ n ≤ 9223372036854775807) (hd : -9223372036854775808 ≤ d ∧ d ≤ 9223372036854775807) (hs : Sl w 3 A l.length c (vp l)) (hn0 : A = none → c = 0) :
    Calls Try.prog 90 #[.agg #[.slice A l.length c], .agg #[.int .i64 n, .int .i64 d]] w fun e w' => ∃ A' c', e = .returned (.tuple #[.slice A' (fieldSorted l n d).1.length c', .int .i64 (fieldSorted l n d).2]) ∧ ∃ x, w' = ext w x ∧ Own (ext w x) w.heap.size 26 3 A' (fieldSorted l n d).1.length c' (vp (fieldSorted l n d).1) := by
  have q := Lib.hid (fun W hb => fieldCheck_any A c l W (hs.bel (w' := W) hb))
  have q2 := Lib.hid (fun W => ratioCheck_any n d W hn hd)
  by_cases h : fieldChk l = 0
  · rw [h] at q
    obtain ⟨h64, hchk, hinc⟩ := fieldChk_zero h
    by_cases h2 : ratioChk n d = 0
    · rw [h2] at q2
      have HF : Hid (fieldSorted l n d = (sortP n d l, 0)) := Lib.hid (by unfold fieldSorted; rw [if_neg (by simpa using h), if_neg (by simpa using h2)])
      have q3 := Lib.hid (fun W hb => clone_any A c l W (hs.bel (w' := W) hb) hn0 (by omega))
      have hia := idsApart_inc hinc
      have hap : ∀ p ∈ l, ∀ q ∈ l, p.id ≠ q.id → twoChk p q n d = 0 := fun p hp q hq hne => twoChk_ok ⟨hchk p hp, hchk q hq, h2⟩ hne
      have q4 := Lib.hid (fun (A2 : Option Addr) (c2 rb B : Nat) (W : World) (hs2 : Own W B 26 3 A2 l.length c2 (vp l)) (hb : Bel w W) (hB : w.heap.size ≤ B) (hrb : rb < B) (r0 : Held W rb 0 (.int .i64 n)) (r1 : Held W rb 1 (.int .i64 d)) => sortFunc_any A2 c2 l n d rb B w W hs2 hb hB hrb r0 r1 hn hd (by omega) hia hap)
      rw [HF.out]
      clear h h2 h64 hchk hinc hia hap hn hd HF
      have HL := Lib.hid (sortP_length n d l)
      go_enter Try.func90, Try.ntmps90
      go_wp2_with (first | (go_at_call 25; refine (q.out _ (by (try simp only [ext_ext]); repeat (first | exact Bel.refl _ | assumption | refine bel_and ?_ _ | refine bel_drews ?_ _ | refine Bel.ext ?_ _ | refine Bel.alloc ?_ _ | refine Bel.drewN ?_ _))).mono ?_; rintro e _ ⟨rfl, nx, rfl⟩) | (go_at_call 102; refine (q2.out _).mono ?_; rintro e _ ⟨rfl, nx, rfl⟩))
      refine (q3.out _ (by (try simp only [ext_ext]); repeat (first | exact Bel.refl _ | assumption | refine bel_and ?_ _ | refine bel_drews ?_ _ | refine Bel.ext ?_ _ | refine Bel.alloc ?_ _ | refine Bel.drewN ?_ _))).mono ?_
      rintro e _ ⟨A2, c2, rfl, x2, rfl, own2⟩
      simp only [ext_ext] at own2 ⊢
      have own3 := own2.base_le (base' := w.heap.size + 2) (by simp [go_sem])
      clear own2
      generalize hZ : ((_ : Beyond).and _).and x2 = Z at own3 ⊢
      obtain ⟨W2, hW2⟩ : ∃ W2, ext ((w.alloc (.cells #[.slice A l.length c] 24)).alloc (.cells #[.int .i64 n, .int .i64 d] 49)) Z = W2 := ⟨_, rfl⟩
      rw [hW2] at own3 ⊢
      have hb2 : Bel w W2 := by rw [← hW2]; exact (by (try simp only [ext_ext]); repeat (first | exact Bel.refl _ | assumption | refine bel_and ?_ _ | refine bel_drews ?_ _ | refine Bel.ext ?_ _ | refine Bel.alloc ?_ _ | refine Bel.drewN ?_ _))
      have hb3 : Bel ((w.alloc (.cells #[.slice A l.length c] 24)).alloc (.cells #[.int .i64 n, .int .i64 d] 49)) W2 := by rw [← hW2]; exact bel_ext _ _
      have e1 : (w.alloc (.cells #[.slice A l.length c] 24)).heap.size = w.heap.size + 1 := by simp [go_sem]
      have r0 := Held.new (j := 0) hb3 rfl
      have r1 := Held.new (j := 1) hb3 rfl
      rw [e1] at r0 r1
      have q5 := q4.out A2 c2 (w.heap.size + 1) (w.heap.size + 2) W2 own3 hb2 (by omega) (by omega) r0 r1
      clear hW2 hZ q4 q3 q2 q r0 r1 hb3 own3
      go_wp2_with (go_at_call 113; refine q5.mono ?_; rintro e _ ⟨rfl, y, rfl, own4⟩)
      go_ret2
      refine ⟨A2, c2, ?_, y, rfl, ?_⟩
      · rw [HL.out]; rfl
      · rw [HL.out]; exact own4.base_le (by omega)
    · rw [show fieldSorted l n d = ([], ratioChk n d) by unfold fieldSorted; rw [if_neg (by simpa using h), if_pos h2]]
      have h2' : (ratioChk n d != 0) = true := by simpa using h2
      clear h h64 hchk hinc h2 hn hd
      go_enter Try.func90, Try.ntmps90
      go_wp2_with (first | (go_at_call 25; refine (q.out _ (by (try simp only [ext_ext]); repeat (first | exact Bel.refl _ | assumption | refine bel_and ?_ _ | refine bel_drews ?_ _ | refine Bel.ext ?_ _ | refine Bel.alloc ?_ _ | refine Bel.drewN ?_ _))).mono ?_; rintro e _ ⟨rfl, nx, rfl⟩) | (go_at_call 102; refine (q2.out _).mono ?_; rintro e _ ⟨rfl, nx, rfl⟩))
      go_ret2
      exact ⟨none, 0, rfl, own_exists (by (try simp only [ext_ext]); repeat (first | exact Bel.refl _ | assumption | refine bel_and ?_ _ | refine bel_drews ?_ _ | refine Bel.ext ?_ _ | refine Bel.alloc ?_ _ | refine Bel.drewN ?_ _)) (Own.nil_ _ _ _ _) (Bel.refl _)⟩
  · rw [show fieldSorted l n d = ([], fieldChk l) by unfold fieldSorted; rw [if_pos h]]
    have h' : (fieldChk l != 0) = true := by simpa using h
    clear h hn hd
    go_enter Try.func90, Try.ntmps90
    go_wp2_with (first | (go_at_call 25; refine (q.out _ (by (try simp only [ext_ext]); repeat (first | exact Bel.refl _ | assumption | refine bel_and ?_ _ | refine bel_drews ?_ _ | refine Bel.ext ?_ _ | refine Bel.alloc ?_ _ | refine Bel.drewN ?_ _))).mono ?_; rintro e _ ⟨rfl, nx, rfl⟩))
    go_ret2
    exact ⟨none, 0, rfl, own_exists (by (try simp only [ext_ext]); repeat (first | exact Bel.refl _ | assumption | refine bel_and ?_ _ | refine bel_drews ?_ _ | refine Bel.ext ?_ _ | refine Bel.alloc ?_ _ | refine Bel.drewN ?_ _)) (Own.nil_ _ _ _ _) (Bel.refl _)⟩
end Go.Proofs.Ytkcpnclgcmnlcaa
