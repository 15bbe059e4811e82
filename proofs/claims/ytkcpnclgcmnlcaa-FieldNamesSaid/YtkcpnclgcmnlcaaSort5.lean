/- field.Order. -/
import Derived.Test.YtkcpnclgcmnlcaaSort4
set_option linter.unusedSimpArgs false
set_option linter.unusedVariables false
namespace Go.Pel
open Go
def vi (l : List Int) : List Value := l.map (Value.int .i64)
def fieldOrder (l : List Pt) (n d : Int) : List Int × Int := if (fieldSorted l n d).2 ≠ 0 then ([], (fieldSorted l n d).2) else ((fieldSorted l n d).1.map Pt.id, 0)
def ordAt (m : List Pt) (k : Nat) : List Value := vi ((m.take k).map Pt.id) ++ List.replicate (m.length - k) (.int .i64 0)
theorem ordAt_set {m : List Pt} {k : Nat} {p : Pt} (h : m[k]? = some p) : (ordAt m k).set k (.int .i64 p.id) = ordAt m (k + 1) := by
  have hk := (List.getElem?_eq_some_iff.1 h).1
  unfold ordAt
  have hl : (vi ((m.take k).map Pt.id)).length = k := by simp [vi]; omega
  rw [List.set_append_right _ _ (by omega), hl, Nat.sub_self]
  obtain ⟨r, hr⟩ : ∃ r, m.length - k = r + 1 := ⟨m.length - k - 1, by omega⟩
  rw [hr, List.replicate_succ, List.set_cons_zero, List.take_add_one, h]
  simp [vi, show m.length - (k + 1) = r by omega]
theorem ordAt_get {m : List Pt} {k : Nat} (hk : k < m.length) : (ordAt m k)[k]? = some (.int .i64 0) := by
  unfold ordAt
  have hl : (vi ((m.take k).map Pt.id)).length = k := by simp [vi]; omega
  rw [List.getElem?_append_right (by omega), hl, Nat.sub_self, List.getElem?_replicate, if_pos (by omega)]
theorem ordAt_end (m : List Pt) : ordAt m m.length = vi (m.map Pt.id) := by simp [ordAt]
end Go.Pel
namespace Go.Proofs.Ytkcpnclgcmnlcaa
open Go.RowKit Go.Pel
theorem slt_ints : SlT Try.prog 45 3 (.int .i64 0) 1 8 := ⟨by kernel_rfl, by kernel_rfl, by kernel_rfl, by decide, by decide⟩
theorem made_ints (n : Nat) : (madeCells (Value.int .i64 0).cells (n * 1)).toList = List.replicate n (.int .i64 0) := by
  apply List.ext_getElem?
  intro k
  by_cases hk : k < n <;> simp [madeCells, Value.cells, Nat.mod_one, List.getElem?_replicate, hk]
set_option maxRecDepth 10000 in
set_option maxHeartbeats 2000000 in
theorem order_any (A : Option Addr) (c : Nat) (l : List Pt) (n d : Int) (w : World) (hn : -9223372036854775808 ≤ n ∧ n ≤ 9223372036854775807) (hd : -9223372036854775808 ≤ d ∧ d ≤ 9223372036854775807) (hs : Sl w 3 A l.length c (vp l)) (hn0 : A = none → c = 0) (hl : l.length ≤ 1000000) :
    Calls Try.prog 52 #[.agg #[.slice A l.length c], .agg #[.int .i64 n, .int .i64 d]] w fun e w' => ∃ A' c', e = .returned (.tuple #[.slice A' (fieldOrder l n d).1.length c', .int .i64 (fieldOrder l n d).2]) ∧ ∃ x, w' = ext w x ∧ Own (ext w x) w.heap.size 3 1 A' (fieldOrder l n d).1.length c' (vi (fieldOrder l n d).1) := by
  have q := Lib.hid (fun W hb => sorted_any A c l n d W hn hd (hs.bel (w' := W) hb) hn0)
  have hlm : (fieldSorted l n d).1.length ≤ 1000000 := by
    unfold fieldSorted; split
    · simp
    · split
      · simp
      · rw [sortP_length]; exact hl
  unfold fieldOrder
  generalize fieldSorted l n d = F at q hlm ⊢
  obtain ⟨m, v⟩ := F
  simp only at q hlm ⊢
  by_cases h : v = 0
  · subst h
    rw [if_neg (by decide)]
    simp only [List.length_map]
    clear hn hd
    go_enter Try.func52, Try.ntmps52
    go_wp2_with (first | (refine make_ext slt_ints (Bel.refl _) (n := m.length) (by omega) rfl _ _ rfl rfl rfl ?_; rintro g y hg hown; rw [made_ints] at hown; have hL2 := own2.sl) | (go_at_call 90; refine (q.out _ (by (try simp only [ext_ext]); repeat (first | exact Bel.refl _ | assumption | refine bel_and ?_ _ | refine bel_drews ?_ _ | refine Bel.ext ?_ _ | refine Bel.alloc ?_ _ | refine Bel.drewN ?_ _))).mono ?_; rintro e W1 ⟨A2, c2, rfl, hx2⟩; have own2 := own_here hx2; have hb0 := bel_of (own_split hx2); have hb1 : Bel w W1 := (by refine Bel.trans ?_ hb0; exact (by (try simp only [ext_ext]); repeat (first | exact Bel.refl _ | assumption | refine bel_and ?_ _ | refine bel_drews ?_ _ | refine Bel.ext ?_ _ | refine Bel.alloc ?_ _ | refine Bel.drewN ?_ _))); clear hx2 hb0))
    clear own2
    go_loopw [25] (fun i wr => ∃ (k : Nat) (y : Beyond), k ≤ m.length ∧ i = .int .i64 k ∧ wr = ext W1 y ∧ Own (ext W1 y) W1.heap.size 3 1 (some ⟨g, 0, none⟩) m.length m.length (ordAt m k)) (fun i _ => m.length - (intOf i).toNat)
    case atStart => exact ⟨0, y, Nat.zero_le _, rfl, rfl, by simpa [ordAt, vi] using hown⟩
    case round =>
      obtain ⟨k, y3, hk, rfl, rfl, own3⟩ := hrel
      by_cases hlt : k < m.length
      · obtain ⟨p, hp⟩ : ∃ p, m[k]? = some p := ⟨_, List.getElem?_eq_getElem hlt⟩
        have HS := Lib.hid (ordAt_set hp)
        have b0 := own_cell own3 (ordAt_get hlt)
        have z0 := own_frozen own3 k
        obtain ⟨b, o, rfl, hb2⟩ := hL2.at_ (by omega)
        obtain ⟨r0, r1, r2⟩ := pt_at (hL2.bel (w' := ext W1 y3) (bel_ext _ _)) hp
        have hlt' : (k : Int) < (m.length : Int) := by omega
        have hgs := own3.ats.2
        have hb3 : b < (ext W1 y3).heap.size := by simp [go_sem]; omega
        have hb4 : Bel W1 (ext W1 y3) := bel_ext _ _
        clear hp hown
        generalize ext W1 y3 = V at *
        have hgne : ¬ g = V.heap.size := by omega
        have hgne' : ¬ V.heap.size = g := by omega
        go_wp2
        go_roundw
        case rel =>
          obtain ⟨y5, hy5, own5⟩ := own_exists (w := W1) ((hb4.setCell (p := ⟨g, k, none⟩) hg (.int .i64 p.id)).alloc (.cells #[.int .i64 p.id, .int .i64 p.a, .int .i64 p.b] 26)) (World.ownsRow.stored own3 k (.int .i64 p.id)).1 ((Bel.refl _).alloc _)
          rw [HS.out] at own5
          exact ⟨k + 1, y5, by omega, by go_num, hy5, own5⟩
        case measure => (first | (simp [intOf]; done) | (simp [intOf]; omega))
      · obtain rfl : k = m.length := by omega
        rw [ordAt_end] at own3
        go_wp2
        go_ret2
        exact ⟨some ⟨g, 0, none⟩, m.length, rfl, own_exists (by (try simp only [ext_ext]); repeat (first | exact Bel.refl _ | assumption | refine bel_and ?_ _ | refine bel_drews ?_ _ | refine Bel.ext ?_ _ | refine Bel.alloc ?_ _ | refine Bel.drewN ?_ _)) (own3.base_le hb1.size) (Bel.refl _)⟩
  · rw [if_pos h]
    have h' : (v != 0) = true := by simpa using h
    clear h hn hd
    go_enter Try.func52, Try.ntmps52
    go_wp2_with (go_at_call 90; refine (q.out _ (by (try simp only [ext_ext]); repeat (first | exact Bel.refl _ | assumption | refine bel_and ?_ _ | refine bel_drews ?_ _ | refine Bel.ext ?_ _ | refine Bel.alloc ?_ _ | refine Bel.drewN ?_ _))).mono ?_; rintro e _ ⟨A2, c2, rfl, x2, rfl, own2⟩)
    go_ret2
    exact ⟨none, 0, rfl, own_exists (by (try simp only [ext_ext]); repeat (first | exact Bel.refl _ | assumption | refine bel_and ?_ _ | refine bel_drews ?_ _ | refine Bel.ext ?_ _ | refine Bel.alloc ?_ _ | refine Bel.drewN ?_ _)) (Own.nil_ _ _ _ _) (Bel.refl _)⟩
end Go.Proofs.Ytkcpnclgcmnlcaa
