/- slices.Index of ints; field.Rank. -/
import Derived.Test.YtkcpnclgcmnlcaaSort5
set_option linter.unusedSimpArgs false
set_option linter.unusedVariables false
namespace Go.Pel
open Go Go.RowKit
def ixI (l : List Int) (x : Int) : Int := match l.findIdx? (· == x) with | some k => (k : Int) | none => -1
theorem ixI_hit {l : List Int} {x : Int} {k : Nat} (hk : l[k]? = some x) (h : ∀ (i : Nat) (y : Int), i < k → l[i]? = some y → y ≠ x) : ixI l x = k := by
  have : l.findIdx? (· == x) = some k := by
    rw [List.findIdx?_eq_some_iff_getElem]
    obtain ⟨h1, h2⟩ := List.getElem?_eq_some_iff.1 hk
    refine ⟨h1, by simp [h2], fun j hj => ?_⟩
    have := h j _ hj (List.getElem?_eq_getElem (by omega))
    simpa using this
  unfold ixI; rw [this]
theorem ixI_miss {l : List Int} {x : Int} (h : ∀ (i : Nat) (y : Int), l[i]? = some y → y ≠ x) : ixI l x = -1 := by
  have : l.findIdx? (· == x) = none := by
    rw [List.findIdx?_eq_none_iff]
    intro y hy
    obtain ⟨i, hi⟩ := List.mem_iff_getElem?.1 hy
    simpa using h i y hi
  unfold ixI; rw [this]
theorem ixI_range (l : List Int) (x : Int) : ixI l x = -1 ∨ (0 ≤ ixI l x ∧ ixI l x < l.length ∧ l[(ixI l x).toNat]? = some x) := by
  unfold ixI
  cases h : l.findIdx? (· == x) with
  | none => exact .inl rfl
  | some k =>
    rw [List.findIdx?_eq_some_iff_getElem] at h
    obtain ⟨h1, h2, _⟩ := h
    refine .inr ⟨by simp, by simpa using h1, ?_⟩
    simp [h1]; simpa using h2
theorem sl_int {w : World} {b o n c : Nat} {l : List Int} (h : Sl w 1 (some ⟨b, o, none⟩) n c (vi l)) {k : Nat} {x : Int} (hx : l[k]? = some x) : w.cell? ⟨b, o + k, none⟩ = some (.int .i64 x) := by
  have hl := h.2.1
  have hk := (List.getElem?_eq_some_iff.1 hx).1
  obtain ⟨b', o', hA, _, hc⟩ := h.2.2 (by simp [vi] at hl; omega)
  injection hA with hA; injection hA with h1 h2
  subst h1 h2
  exact hc k _ (by simp [vi, hx])
def fieldRank (l : List Pt) (id n d : Int) : Int × Int := if (fieldOrder l n d).2 ≠ 0 then (0, (fieldOrder l n d).2) else if ixI (fieldOrder l n d).1 id < 0 then (0, 6) else (ixI (fieldOrder l n d).1 id, 0)
end Go.Pel
namespace Go.Proofs.Ytkcpnclgcmnlcaa
open Go.RowKit Go.Pel
set_option maxRecDepth 10000 in
set_option maxHeartbeats 2000000 in
theorem index_any (A : Option Addr) (c : Nat) (l : List Int) (x : Int) (w : World) (hs : Sl w 1 A l.length c (vi l)) (hl : l.length ≤ 1000000) :
    Calls Try.prog 92 #[.slice A l.length c, .int .i64 x] w fun e w' => e = .returned (.int .i64 (ixI l x)) ∧ ∃ x, w' = ext w x := by
  go_enter Try.func92, Try.ntmps92
  go_wp2
  go_loopw [8] (fun i wr => ∃ k : Nat, k ≤ l.length ∧ i = .int .i64 k ∧ (∀ (i : Nat) (y : Int), i < k → l[i]? = some y → y ≠ x) ∧ ∃ y, wr = ext w y) (fun i _ => l.length - (intOf i).toNat)
  case atStart => exact ⟨0, Nat.zero_le _, rfl, (by intro i y h; omega), ext_of (Bel.refl _)⟩
  case round =>
    obtain ⟨k, hk, rfl, h1, y, rfl⟩ := hrel
    have H1 := Lib.hid h1
    clear h1
    by_cases hlt : k < l.length
    · obtain ⟨v, hv⟩ : ∃ v, l[k]? = some v := ⟨_, List.getElem?_eq_getElem hlt⟩
      obtain ⟨b, o, rfl, hb⟩ := hs.at_ (by omega)
      have c0 := sl_int (hs.bel (w' := ext w y) (bel_ext _ _)) hv
      have HV := Lib.hid hv
      clear hv
      have hlt' : (k : Int) < (l.length : Int) := by omega
      by_cases hx : v = x
      · subst hx
        have HR := Lib.hid (ixI_hit HV.out H1.out)
        go_wp2
        (go_ret; exact ⟨ret_int (by exact HR.out.symm), ext_of (by (try simp only [ext_ext]); repeat (first | exact Bel.refl _ | assumption | refine bel_and ?_ _ | refine bel_drews ?_ _ | refine Bel.ext ?_ _ | refine Bel.alloc ?_ _ | refine Bel.drewN ?_ _))⟩)
      · have hx' : (x == v) = false := by simpa using Ne.symm hx
        have HN := Lib.hid hx
        clear hx
        go_wp2
        go_roundw
        case rel =>
          refine ⟨k + 1, by omega, by go_num, ?_, ext_of (by (try simp only [ext_ext]); repeat (first | exact Bel.refl _ | assumption | refine bel_and ?_ _ | refine bel_drews ?_ _ | refine Bel.ext ?_ _ | refine Bel.alloc ?_ _ | refine Bel.drewN ?_ _))⟩
          intro i z hi hz
          rcases Nat.lt_or_ge i k with h | h
          · exact H1.out i z h hz
          · obtain rfl : i = k := by omega
            rw [HV.out] at hz; obtain rfl := Option.some.inj hz; exact HN.out
        case measure => (first | (simp [intOf]; done) | (simp [intOf]; omega))
    · obtain rfl : k = l.length := by omega
      have HR := Lib.hid (ixI_miss (l := l) (x := x) (fun i y hi => H1.out i y (List.getElem?_eq_some_iff.1 hi).1 hi))
      go_wp2
      (go_ret; exact ⟨ret_int (by exact HR.out.symm), ext_of (by (try simp only [ext_ext]); repeat (first | exact Bel.refl _ | assumption | refine bel_and ?_ _ | refine bel_drews ?_ _ | refine Bel.ext ?_ _ | refine Bel.alloc ?_ _ | refine Bel.drewN ?_ _))⟩)
set_option maxRecDepth 10000 in
set_option maxHeartbeats 2000000 in
theorem rank_any (A : Option Addr) (c : Nat) (l : List Pt) (id n d : Int) (w : World) (hn : -9223372036854775808 ≤ n ∧ n ≤ 9223372036854775807) (hd : -9223372036854775808 ≤ d ∧ d ≤ 9223372036854775807) (hs : Sl w 3 A l.length c (vp l)) (hn0 : A = none → c = 0) (hl : l.length ≤ 1000000) :
    Calls Try.prog 54 #[.agg #[.slice A l.length c], .int .i64 id, .agg #[.int .i64 n, .int .i64 d]] w fun e w' => e = .returned (.tuple #[.int .i64 (fieldRank l id n d).1, .int .i64 (fieldRank l id n d).2]) ∧ ∃ x, w' = ext w x := by
  have q := Lib.hid (fun W hb => order_any A c l n d W hn hd (hs.bel (w' := W) hb) hn0 hl)
  have hlm : (fieldOrder l n d).1.length ≤ 1000000 := by
    unfold fieldOrder fieldSorted; split
    · simp
    · split
      · simp
      · split
        · simp
        · simp [sortP_length]; exact hl
  unfold fieldRank
  generalize fieldOrder l n d = F at q hlm ⊢
  obtain ⟨m, v⟩ := F
  simp only at q hlm ⊢
  have q2 := Lib.hid (fun (A2 : Option Addr) (c2 : Nat) (W : World) (h2 : Sl W 1 A2 m.length c2 (vi m)) => index_any A2 c2 m id W h2 hlm)
  generalize ixI m id = j at q2 ⊢
  by_cases h : v = 0
  · subst h
    rw [if_neg (by decide)]
    clear hn hd
    by_cases hj : j < 0
    · rw [if_pos hj]
      go_enter Try.func54, Try.ntmps54
      go_wp2_with (first | (go_at_call 52; refine (q.out _ (by (try simp only [ext_ext]); repeat (first | exact Bel.refl _ | assumption | refine bel_and ?_ _ | refine bel_drews ?_ _ | refine Bel.ext ?_ _ | refine Bel.alloc ?_ _ | refine Bel.drewN ?_ _))).mono ?_; rintro e _ ⟨A2, c2, rfl, x2, rfl, own2⟩; have s2 := own2.sl; clear own2) | (go_at_call 92; refine (q2.out _ _ _ (s2.bel (by (try simp only [ext_ext]); repeat (first | exact Bel.refl _ | assumption | refine bel_and ?_ _ | refine bel_drews ?_ _ | refine Bel.ext ?_ _ | refine Bel.alloc ?_ _ | refine Bel.drewN ?_ _)))).mono ?_; rintro e _ ⟨rfl, nx, rfl⟩))
      go_ret2
      exact ⟨rfl, ext_of (by (try simp only [ext_ext]); repeat (first | exact Bel.refl _ | assumption | refine bel_and ?_ _ | refine bel_drews ?_ _ | refine Bel.ext ?_ _ | refine Bel.alloc ?_ _ | refine Bel.drewN ?_ _))⟩
    · rw [if_neg hj]
      have hj' : 0 ≤ j := by omega
      go_enter Try.func54, Try.ntmps54
      go_wp2_with (first | (go_at_call 52; refine (q.out _ (by (try simp only [ext_ext]); repeat (first | exact Bel.refl _ | assumption | refine bel_and ?_ _ | refine bel_drews ?_ _ | refine Bel.ext ?_ _ | refine Bel.alloc ?_ _ | refine Bel.drewN ?_ _))).mono ?_; rintro e _ ⟨A2, c2, rfl, x2, rfl, own2⟩; have s2 := own2.sl; clear own2) | (go_at_call 92; refine (q2.out _ _ _ (s2.bel (by (try simp only [ext_ext]); repeat (first | exact Bel.refl _ | assumption | refine bel_and ?_ _ | refine bel_drews ?_ _ | refine Bel.ext ?_ _ | refine Bel.alloc ?_ _ | refine Bel.drewN ?_ _)))).mono ?_; rintro e _ ⟨rfl, nx, rfl⟩))
      go_ret2
      exact ⟨rfl, ext_of (by (try simp only [ext_ext]); repeat (first | exact Bel.refl _ | assumption | refine bel_and ?_ _ | refine bel_drews ?_ _ | refine Bel.ext ?_ _ | refine Bel.alloc ?_ _ | refine Bel.drewN ?_ _))⟩
  · rw [if_pos h]
    have h' : (v != 0) = true := by simpa using h
    clear h hn hd
    go_enter Try.func54, Try.ntmps54
    go_wp2_with (go_at_call 52; refine (q.out _ (by (try simp only [ext_ext]); repeat (first | exact Bel.refl _ | assumption | refine bel_and ?_ _ | refine bel_drews ?_ _ | refine Bel.ext ?_ _ | refine Bel.alloc ?_ _ | refine Bel.drewN ?_ _))).mono ?_; rintro e _ ⟨A2, c2, rfl, x2, rfl, own2⟩)
    go_ret2
    exact ⟨rfl, ext_of (by (try simp only [ext_ext]); repeat (first | exact Bel.refl _ | assumption | refine bel_and ?_ _ | refine bel_drews ?_ _ | refine Bel.ext ?_ _ | refine Bel.alloc ?_ _ | refine Bel.drewN ?_ _))⟩
end Go.Proofs.Ytkcpnclgcmnlcaa
