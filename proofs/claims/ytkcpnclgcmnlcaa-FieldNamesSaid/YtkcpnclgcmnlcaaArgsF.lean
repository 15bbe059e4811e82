/- Fields, points, fractions and numbers that came in. -/
import Derived.Test.YtkcpnclgcmnlcaaArgsS
import Derived.Test.YtkcpnclgcmnlcaaSpec3
set_option linter.unusedSimpArgs false
set_option linter.unusedVariables false
namespace Go.Proofs.Ytkcpnclgcmnlcaa
open Go.ChangeShapes Go.WideShapes Go.ChangeAt Go.RowKit Go.Pel Go.Deep
theorem list1 {α : Type} (l : List α) (h : l.length = 1) : ∃ a, l = [a] := by
  match l, h with
  | [a], _ => exact ⟨a, rfl⟩
theorem list2 {α : Type} (l : List α) (h : l.length = 2) : ∃ a b, l = [a, b] := by
  match l, h with
  | [a, b], _ => exact ⟨a, b, rfl⟩
theorem list3 {α : Type} (l : List α) (h : l.length = 3) : ∃ a b c, l = [a, b, c] := by
  match l, h with
  | [a, b, c], _ => exact ⟨a, b, c, rfl⟩
section
variable {H : Type} {enc : TypeId × Value → H} {w : World} {base : Nat} {spare : Nat → Bool} {held : Bool}
theorem cellsF_int : Try.prog.cellsOf 3 = 1 := by kernel_rfl
theorem cellsF_i64 : Try.prog.cellsOf 2 = 1 := by kernel_rfl
theorem cellsF_point : Try.prog.cellsOf 26 = 3 := by kernel_rfl
theorem cellsF_field : Try.prog.cellsOf 24 = 1 := by kernel_rfl
theorem cellsF_points : Try.prog.cellsOf 22 = 1 := by kernel_rfl
theorem point_cells {fuel : Nat} {l : List Value} {x : DataW H × List MemPlace} (h : DataW.trod enc Try.prog w base spare held fuel 26 l = some x) (hl : l.length = 3) :
    ∃ p : Pt, l = [.int .i64 p.id, .int .i64 p.a, .int .i64 p.b] ∧ p.Fits := by
  obtain ⟨c0, c1, c2, rfl⟩ := list3 l hl
  obtain ⟨m4, y4, h4⟩ := field_at Try.underlying26 h (i := 0) rfl rfl rfl cellsF_int
  obtain ⟨m5, y5, h5⟩ := field_at Try.underlying26 h (i := 1) rfl rfl rfl cellsF_i64
  obtain ⟨m6, y6, h6⟩ := field_at Try.underlying26 h (i := 2) rfl rfl rfl cellsF_i64
  obtain ⟨i, e4, w4⟩ := int_cell Try.underlying3 h4
  obtain ⟨a, e5, w5⟩ := int_cell Try.underlying2 h5
  obtain ⟨b, e6, w6⟩ := int_cell Try.underlying2 h6
  simp at e4 e5 e6
  subst e4 e5 e6
  exact ⟨⟨i, a, b⟩, rfl, ⟨wf_i64 w4, wf_i64 w5, wf_i64 w6⟩⟩
theorem point_read (fuel : Nat) (l : List Value) (x : DataW H × List MemPlace) (h : DataW.trod enc Try.prog w base spare held fuel 26 l = some x) (hl : l.length = 3) : ∃ p : Pt, l = p.cells ∧ p.Fits := point_cells h hl
theorem field_cells {fuel : Nat} {l : List Value} {x : DataW H × List MemPlace} (h : DataW.trod enc Try.prog w base (fun _ => true) held fuel 24 l = some x) (hl : l.length = 1) :
    ∃ (A : Option Addr) (c : Nat) (m : List Pt), l = [.slice A m.length c] ∧ Sl w 3 A m.length c (vp m) ∧ (A = none → c = 0) ∧ ∀ p ∈ m, p.Fits := by
  obtain ⟨c0, rfl⟩ := list1 l hl
  obtain ⟨m0, y0, h0⟩ := field_at Try.underlying24 h (i := 0) rfl rfl rfl cellsF_points
  have h0' : DataW.trod enc Try.prog w base (fun _ => true) held m0 22 [c0] = some y0 := by simpa using h0
  obtain ⟨A, n, c, rfl⟩ : ∃ A n c, c0 = Value.slice A n c := by
    rcases open_slice Try.underlying22 h0' with ⟨hcs, _⟩ | ⟨a, len, cap, m, q, D, Pl, hcs, _⟩
    · simp only [List.cons.injEq, and_true] at hcs; exact ⟨_, _, _, hcs⟩
    · simp only [List.cons.injEq, and_true] at hcs; exact ⟨_, _, _, hcs⟩
  have hn := arg_nil Try.underlying22 h0'
  obtain ⟨pts, rfl, hs, hok, _, _⟩ := arg_slice Pt.cells Pt.Fits Try.underlying22 cellsF_point (by decide) (fun _ => rfl) point_read h0'
  exact ⟨A, c, pts, rfl, hs, hn, hok⟩
theorem cellsF_ratio : Try.prog.cellsOf 49 = 2 := by kernel_rfl
theorem ratio_cells {fuel : Nat} {l : List Value} {x : DataW H × List MemPlace} (h : DataW.trod enc Try.prog w base spare held fuel 49 l = some x) (hl : l.length = 2) :
    ∃ n d : Int, l = [.int .i64 n, .int .i64 d] ∧ (-9223372036854775808 ≤ n ∧ n ≤ 9223372036854775807) ∧ (-9223372036854775808 ≤ d ∧ d ≤ 9223372036854775807) := by
  obtain ⟨c0, c1, rfl⟩ := list2 l hl
  obtain ⟨m4, y4, h4⟩ := field_at Try.underlying49 h (i := 0) rfl rfl rfl cellsF_i64
  obtain ⟨m5, y5, h5⟩ := field_at Try.underlying49 h (i := 1) rfl rfl rfl cellsF_i64
  obtain ⟨n, e4, w4⟩ := int_cell Try.underlying2 h4
  obtain ⟨d, e5, w5⟩ := int_cell Try.underlying2 h5
  simp at e4 e5
  subst e4 e5
  exact ⟨n, d, rfl, wf_i64 w4, wf_i64 w5⟩
end
end Go.Proofs.Ytkcpnclgcmnlcaa
