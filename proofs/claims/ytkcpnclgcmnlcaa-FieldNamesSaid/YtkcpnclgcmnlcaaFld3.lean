/- cmp.Compare of ints; slices.BinarySearchFunc over points; field.find, field.place. -/
import Derived.Test.YtkcpnclgcmnlcaaFld2
set_option linter.unusedSimpArgs false
set_option linter.unusedVariables false
namespace Go.Proofs.Ytkcpnclgcmnlcaa
open Go.RowKit Go.Pel
def cmpI (a b : Int) : Int := if a < b then -1 else if b < a then 1 else 0
theorem cmpI_lt {a b : Int} (h : a < b) : cmpI a b = -1 := if_pos h
theorem cmpI_gt {a b : Int} (h : b < a) : cmpI a b = 1 := by unfold cmpI; rw [if_neg (by omega), if_pos h]
theorem cmpI_eq {a b : Int} (h : a = b) : cmpI a b = 0 := by unfold cmpI; rw [if_neg (by omega), if_neg (by omega)]
set_option maxHeartbeats 400000 in
theorem cmpInt_any (a b : Int) (w : World) : Calls Try.prog 99 #[.int .i64 a, .int .i64 b] w fun e w' => e = .returned (.int .i64 (cmpI a b)) ∧ ∃ x, w' = ext w x := by
  rcases (by omega : a < b ∨ b < a ∨ a = b) with h | h | h
  · have H := Lib.hid (cmpI_lt h)
    have h2 : ¬ b < a := by omega
    go_enter Try.func99, Try.ntmps99
    go_wp2
    (go_ret; exact ⟨ret_int (by exact H.out.symm), ext_of (by (try simp only [ext_ext]); repeat (first | exact Bel.refl _ | assumption | refine bel_and ?_ _ | refine bel_drews ?_ _ | refine Bel.ext ?_ _ | refine Bel.alloc ?_ _ | refine Bel.drewN ?_ _))⟩)
  · have H := Lib.hid (cmpI_gt h)
    have h2 : ¬ a < b := by omega
    go_enter Try.func99, Try.ntmps99
    go_wp2
    (go_ret; exact ⟨ret_int (by exact H.out.symm), ext_of (by (try simp only [ext_ext]); repeat (first | exact Bel.refl _ | assumption | refine bel_and ?_ _ | refine bel_drews ?_ _ | refine Bel.ext ?_ _ | refine Bel.alloc ?_ _ | refine Bel.drewN ?_ _))⟩)
  · have H := Lib.hid (cmpI_eq h)
    have h2 : ¬ a < b := by omega
    have h3 : ¬ b < a := by omega
    clear h
    go_enter Try.func99, Try.ntmps99
    go_wp2
    (go_ret; exact ⟨ret_int (by exact H.out.symm), ext_of (by (try simp only [ext_ext]); repeat (first | exact Bel.refl _ | assumption | refine bel_and ?_ _ | refine bel_drews ?_ _ | refine Bel.ext ?_ _ | refine Bel.alloc ?_ _ | refine Bel.drewN ?_ _))⟩)
set_option maxHeartbeats 400000 in
theorem find1_any (p : Pt) (id : Int) (w : World) : Calls Try.prog 98 #[.agg #[.int .i64 p.id, .int .i64 p.a, .int .i64 p.b], .int .i64 id] w fun e w' => e = .returned (.int .i64 (cmpI p.id id)) ∧ ∃ x, w' = ext w x := by
  go_enter Try.func98, Try.ntmps98
  go_wp2_with ((go_at_call 99; refine (cmpInt_any _ _ _).mono ?_; rintro e _ ⟨rfl, nx, rfl⟩))
  (go_ret; exact ⟨ret_int (by rfl), ext_of (by (try simp only [ext_ext]); repeat (first | exact Bel.refl _ | assumption | refine bel_and ?_ _ | refine bel_drews ?_ _ | refine Bel.ext ?_ _ | refine Bel.alloc ?_ _ | refine Bel.drewN ?_ _))⟩)
theorem find1_lit (p : Pt) (id v : Int) (h : cmpI p.id id = v) (w : World) : Calls Try.prog 98 #[.agg #[.int .i64 p.id, .int .i64 p.a, .int .i64 p.b], .int .i64 id] w fun e w' => e = .returned (.int .i64 v) ∧ ∃ x, w' = ext w x := h ▸ find1_any p id w
set_option maxRecDepth 10000 in
set_option maxHeartbeats 2000000 in
theorem bsf_any (A : Option Addr) (c : Nat) (l : List Pt) (id : Int) (w : World) (hs : Sl w 3 A l.length c (vp l)) (hl : l.length ≤ 1000000) (hinc : incB l = true) :
    Calls Try.prog 97 #[.slice A l.length c, .int .i64 id, .func (.func 98) #[] #[]] w fun e w' => e = .returned (.tuple #[.int .i64 (lowB l id), .bool (hasB l id)]) ∧ ∃ x, w' = ext w x := by
  have HI := Lib.hid hinc; clear hinc
  go_enter Try.func97, Try.ntmps97
  go_wp2
  go_loopw [9, 10] (fun i j wr => ∃ (a b : Nat), a ≤ b ∧ b ≤ l.length ∧ i = .int .i64 a ∧ j = .int .i64 b ∧ (∀ (k : Nat) (p : Pt), k < a → l[k]? = some p → p.id < id) ∧ (∀ (k : Nat) (p : Pt), b ≤ k → l[k]? = some p → id ≤ p.id) ∧ ∃ y, wr = ext w y) (fun i j _ => (intOf j - intOf i).toNat)
  case atStart => exact ⟨0, l.length, Nat.zero_le _, Nat.le_refl _, rfl, rfl, (by intro k p h; omega), (by intro k p h hp; have := (List.getElem?_eq_some_iff.1 hp).1; omega), ext_of (Bel.refl _)⟩
  case round =>
    obtain ⟨a, b, hab, hbl, rfl, rfl, h1, h2, y, rfl⟩ := hrel
    have H1 := Lib.hid h1
    have H2 := Lib.hid h2
    clear h1 h2
    by_cases hlt : a < b
    · obtain ⟨m, hm1, hm2⟩ : ∃ m : Nat, 2 * m ≤ a + b ∧ a + b ≤ 2 * m + 1 := ⟨(a + b) / 2, by omega, by omega⟩
      have hmd : ((a : Int) + (b : Int)) / 2 = (m : Int) := by omega
      obtain ⟨p, hp⟩ : ∃ p, l[m]? = some p := ⟨_, List.getElem?_eq_getElem (by omega)⟩
      obtain ⟨b0, o, rfl, hb0⟩ := hs.at_ (by omega)
      obtain ⟨r0, r1, r2⟩ := pt_at hs hp
      have HP := Lib.hid hp; clear hp
      have hml : (m : Int) < (l.length : Int) := by omega
      by_cases hpi : p.id < id
      · have e1 := Lib.hid (find1_lit p id (-1) (cmpI_lt hpi))
        go_wp2_with ((go_at_call 98; refine (e1.out _).mono ?_; rintro e _ ⟨rfl, nx, rfl⟩))
        go_roundw
        case rel =>
          refine ⟨m + 1, b, by omega, hbl, by go_num, rfl, ?_, H2.out, ext_of (by (try simp only [ext_ext]); repeat (first | exact Bel.refl _ | assumption | refine bel_and ?_ _ | refine bel_drews ?_ _ | refine Bel.ext ?_ _ | refine Bel.alloc ?_ _ | refine Bel.drewN ?_ _))⟩
          intro k q hk hq
          rcases Nat.lt_or_ge k m with h | h
          · have := inc_lt HI.out h hq HP.out; omega
          · obtain rfl : k = m := by omega
            rw [HP.out] at hq; obtain rfl := Option.some.inj hq; exact hpi
        case measure => (first | (simp [intOf]; done) | (simp [intOf]; omega))
      · have e1 : Hid (∃ v : Int, ¬ v < 0 ∧ cmpI p.id id = v) := Lib.hid (by
          by_cases h : id < p.id
          · exact ⟨1, by omega, cmpI_gt h⟩
          · exact ⟨0, by omega, cmpI_eq (by omega)⟩)
        obtain ⟨v, hv, e2⟩ := e1.out
        have e1 := Lib.hid (find1_lit p id v e2)
        clear e2
        go_wp2_with ((go_at_call 98; refine (e1.out _).mono ?_; rintro e _ ⟨rfl, nx, rfl⟩))
        go_roundw
        case rel =>
          refine ⟨a, m, by omega, by omega, rfl, rfl, H1.out, ?_, ext_of (by (try simp only [ext_ext]); repeat (first | exact Bel.refl _ | assumption | refine bel_and ?_ _ | refine bel_drews ?_ _ | refine Bel.ext ?_ _ | refine Bel.alloc ?_ _ | refine Bel.drewN ?_ _))⟩
          intro k q hk hq
          rcases Nat.lt_or_ge m k with h | h
          · have := inc_lt HI.out h HP.out hq; omega
          · obtain rfl : k = m := by omega
            rw [HP.out] at hq; obtain rfl := Option.some.inj hq; omega
        case measure => (first | (simp [intOf]; done) | (simp [intOf]; omega))
    · obtain rfl : a = b := by omega
      have HL := Lib.hid (lowB_of hbl H1.out (fun p hp => H2.out a p (Nat.le_refl _) hp))
      have HH := Lib.hid (hasB_at HI.out id)
      by_cases hal : a < l.length
      · obtain ⟨p, hp⟩ : ∃ p, l[a]? = some p := ⟨_, List.getElem?_eq_getElem hal⟩
        obtain ⟨b0, o, rfl, hb0⟩ := hs.at_ (by omega)
        obtain ⟨r0, r1, r2⟩ := pt_at hs hp
        have HP := Lib.hid hp; clear hp
        have hge := H2.out a p (Nat.le_refl _) HP.out
        have hal2 : (a : Int) < (l.length : Int) := by omega
        by_cases hpi : p.id = id
        · have e1 := Lib.hid (find1_lit p id 0 (cmpI_eq hpi))
          have HB : Hid (hasB l id = true) := Lib.hid (by rw [HH.out, HL.out, HP.out]; simpa using hpi)
          clear hpi
          go_wp2_with ((go_at_call 98; refine (e1.out _).mono ?_; rintro e _ ⟨rfl, nx, rfl⟩))
          go_ret2
          exact ⟨by rw [HL.out, HB.out]; rfl, ext_of (by (try simp only [ext_ext]); repeat (first | exact Bel.refl _ | assumption | refine bel_and ?_ _ | refine bel_drews ?_ _ | refine Bel.ext ?_ _ | refine Bel.alloc ?_ _ | refine Bel.drewN ?_ _))⟩
        · have e1 := Lib.hid (find1_lit p id 1 (cmpI_gt (by omega)))
          have HB : Hid (hasB l id = false) := Lib.hid (by rw [HH.out, HL.out, HP.out]; simpa using hpi)
          clear hpi
          go_wp2_with ((go_at_call 98; refine (e1.out _).mono ?_; rintro e _ ⟨rfl, nx, rfl⟩))
          go_ret2
          exact ⟨by rw [HL.out, HB.out]; rfl, ext_of (by (try simp only [ext_ext]); repeat (first | exact Bel.refl _ | assumption | refine bel_and ?_ _ | refine bel_drews ?_ _ | refine Bel.ext ?_ _ | refine Bel.alloc ?_ _ | refine Bel.drewN ?_ _))⟩
      · have HB : Hid (hasB l id = false) := Lib.hid (by rw [HH.out, HL.out, List.getElem?_eq_none (by omega)])
        go_wp2
        go_ret2
        exact ⟨by rw [HL.out, HB.out]; rfl, ext_of (by (try simp only [ext_ext]); repeat (first | exact Bel.refl _ | assumption | refine bel_and ?_ _ | refine bel_drews ?_ _ | refine Bel.ext ?_ _ | refine Bel.alloc ?_ _ | refine Bel.drewN ?_ _))⟩
set_option maxHeartbeats 400000 in
theorem find_any (A : Option Addr) (c : Nat) (l : List Pt) (id : Int) (w : World) (hs : Sl w 3 A l.length c (vp l)) (hl : l.length ≤ 1000000) (hinc : incB l = true) :
    Calls Try.prog 68 #[.agg #[.slice A l.length c], .int .i64 id] w fun e w' => e = .returned (.tuple #[.int .i64 (lowB l id), .bool (hasB l id)]) ∧ ∃ x, w' = ext w x := by
  have q := Lib.hid (fun W hb => bsf_any A c l id W (hs.bel (w' := W) hb) hl hinc)
  clear hinc
  go_enter Try.func68, Try.ntmps68
  go_wp2_with ((go_at_call 97; refine (q.out _ (by (try simp only [ext_ext]); repeat (first | exact Bel.refl _ | assumption | refine bel_and ?_ _ | refine bel_drews ?_ _ | refine Bel.ext ?_ _ | refine Bel.alloc ?_ _ | refine Bel.drewN ?_ _))).mono ?_; rintro e _ ⟨rfl, nx, rfl⟩))
  go_ret2
  exact ⟨rfl, ext_of (by (try simp only [ext_ext]); repeat (first | exact Bel.refl _ | assumption | refine bel_and ?_ _ | refine bel_drews ?_ _ | refine Bel.ext ?_ _ | refine Bel.alloc ?_ _ | refine Bel.drewN ?_ _))⟩
/-- where the point with an ID is; an error -/
def fieldPlace (l : List Pt) (id : Int) : Int × Int := if fieldChk l ≠ 0 then (0, fieldChk l) else if hasB l id then ((lowB l id : Int), 0) else (0, 6)
set_option maxHeartbeats 1000000 in
theorem place_any (A : Option Addr) (c : Nat) (l : List Pt) (id : Int) (w : World) (hs : Sl w 3 A l.length c (vp l)) :
    Calls Try.prog 65 #[.agg #[.slice A l.length c], .int .i64 id] w fun e w' => e = .returned (.tuple #[.int .i64 (fieldPlace l id).1, .int .i64 (fieldPlace l id).2]) ∧ ∃ x, w' = ext w x := by
  have q1 := Lib.hid (fun W hb => fieldCheck_any A c l W (hs.bel (w' := W) hb))
  by_cases h0 : fieldChk l = 0
  · obtain ⟨h1, h2, h3⟩ := fieldChk_zero h0
    have q2 := Lib.hid (fun W hb => find_any A c l id W (hs.bel (w' := W) hb) (by omega) h3)
    cases hb : hasB l id with
    | true =>
      have H : Hid (fieldPlace l id = ((lowB l id : Int), 0)) := Lib.hid (by simp [fieldPlace, h0, hb])
      rw [h0] at q1
      rw [hb] at q2
      clear h0 h2 h3 hb
      go_enter Try.func65, Try.ntmps65
      go_wp2_with (first | (go_at_call 25; refine (q1.out _ (by (try simp only [ext_ext]); repeat (first | exact Bel.refl _ | assumption | refine bel_and ?_ _ | refine bel_drews ?_ _ | refine Bel.ext ?_ _ | refine Bel.alloc ?_ _ | refine Bel.drewN ?_ _))).mono ?_; rintro e _ ⟨rfl, nx, rfl⟩) | (go_at_call 68; refine (q2.out _ (by (try simp only [ext_ext]); repeat (first | exact Bel.refl _ | assumption | refine bel_and ?_ _ | refine bel_drews ?_ _ | refine Bel.ext ?_ _ | refine Bel.alloc ?_ _ | refine Bel.drewN ?_ _))).mono ?_; rintro e _ ⟨rfl, nx, rfl⟩))
      go_ret2
      exact ⟨by rw [H.out]; rfl, ext_of (by (try simp only [ext_ext]); repeat (first | exact Bel.refl _ | assumption | refine bel_and ?_ _ | refine bel_drews ?_ _ | refine Bel.ext ?_ _ | refine Bel.alloc ?_ _ | refine Bel.drewN ?_ _))⟩
    | false =>
      have H : Hid (fieldPlace l id = (0, 6)) := Lib.hid (by simp [fieldPlace, h0, hb])
      rw [h0] at q1
      rw [hb] at q2
      clear h0 h2 h3 hb
      go_enter Try.func65, Try.ntmps65
      go_wp2_with (first | (go_at_call 25; refine (q1.out _ (by (try simp only [ext_ext]); repeat (first | exact Bel.refl _ | assumption | refine bel_and ?_ _ | refine bel_drews ?_ _ | refine Bel.ext ?_ _ | refine Bel.alloc ?_ _ | refine Bel.drewN ?_ _))).mono ?_; rintro e _ ⟨rfl, nx, rfl⟩) | (go_at_call 68; refine (q2.out _ (by (try simp only [ext_ext]); repeat (first | exact Bel.refl _ | assumption | refine bel_and ?_ _ | refine bel_drews ?_ _ | refine Bel.ext ?_ _ | refine Bel.alloc ?_ _ | refine Bel.drewN ?_ _))).mono ?_; rintro e _ ⟨rfl, nx, rfl⟩))
      go_ret2
      exact ⟨by rw [H.out]; rfl, ext_of (by (try simp only [ext_ext]); repeat (first | exact Bel.refl _ | assumption | refine bel_and ?_ _ | refine bel_drews ?_ _ | refine Bel.ext ?_ _ | refine Bel.alloc ?_ _ | refine Bel.drewN ?_ _))⟩
  · have H : Hid (fieldPlace l id = (0, fieldChk l)) := Lib.hid (by simp [fieldPlace, h0])
    have hz : (fieldChk l == 0) = false := by simpa using h0
    have hz' : (fieldChk l != 0) = true := by simpa using h0
    clear h0
    go_enter Try.func65, Try.ntmps65
    go_wp2_with ((go_at_call 25; refine (q1.out _ (by (try simp only [ext_ext]); repeat (first | exact Bel.refl _ | assumption | refine bel_and ?_ _ | refine bel_drews ?_ _ | refine Bel.ext ?_ _ | refine Bel.alloc ?_ _ | refine Bel.drewN ?_ _))).mono ?_; rintro e _ ⟨rfl, nx, rfl⟩))
    go_ret2
    exact ⟨by rw [H.out]; rfl, ext_of (by (try simp only [ext_ext]); repeat (first | exact Bel.refl _ | assumption | refine bel_and ?_ _ | refine bel_drews ?_ _ | refine Bel.ext ?_ _ | refine Bel.alloc ?_ _ | refine Bel.drewN ?_ _))⟩
end Go.Proofs.Ytkcpnclgcmnlcaa
