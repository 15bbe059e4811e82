/- An ask that came in; the frame of a law over an ask and bytes. -/
import Derived.Test.YtijinelgbiombaaArgsS
import Derived.Test.YtijinelgbiombaaSpec36b
set_option linter.unusedSimpArgs false
set_option linter.unusedVariables false
namespace Go.Proofs.Ytijinelgbiombaa
open Go.ChangeShapes Go.WideShapes Go.ChangeAt Go.RowKit
theorem list7 {α : Type} (l : List α) (h : l.length = 7) : ∃ a b c d e f g, l = [a, b, c, d, e, f, g] := by
  match l, h with
  | [a, b, c, d, e, f, g], _ => exact ⟨a, b, c, d, e, f, g, rfl⟩
section
variable {H : Type} {enc : TypeId × Value → H} {w : World} {base : Nat} {spare : Nat → Bool} {held : Bool}
theorem cells_u8 : Try.prog.cellsOf 5 = 1 := by kernel_rfl
theorem cells_int : Try.prog.cellsOf 3 = 1 := by kernel_rfl
theorem cells_i64 : Try.prog.cellsOf 2 = 1 := by kernel_rfl
theorem cells_point : Try.prog.cellsOf 23 = 3 := by kernel_rfl
theorem cells_ratio : Try.prog.cellsOf 25 = 2 := by kernel_rfl
theorem cells_ask : Try.prog.cellsOf 27 = 7 := by kernel_rfl
/-- the numbers of an ask fit their kinds -/
structure AskIn (k i a b j n d : Int) : Prop where
  k : 0 ≤ k ∧ k ≤ 255
  i : -9223372036854775808 ≤ i ∧ i ≤ 9223372036854775807
  a : -9223372036854775808 ≤ a ∧ a ≤ 9223372036854775807
  b : -9223372036854775808 ≤ b ∧ b ≤ 9223372036854775807
  j : -9223372036854775808 ≤ j ∧ j ≤ 9223372036854775807
  n : -9223372036854775808 ≤ n ∧ n ≤ 9223372036854775807
  d : -9223372036854775808 ≤ d ∧ d ≤ 9223372036854775807
theorem ask_cells {fuel : Nat} {l : List Value} {x : DataW H × List MemPlace} (h : DataW.trod enc Try.prog w base spare held fuel 27 l = some x) (hl : l.length = 7) :
    ∃ k i a b j n d : Int, l = [.int .u8 k, .int .i64 i, .int .i64 a, .int .i64 b, .int .i64 j, .int .i64 n, .int .i64 d] ∧ AskIn k i a b j n d := by
  obtain ⟨c0, c1, c2, c3, c4, c5, c6, rfl⟩ := list7 l hl
  obtain ⟨m0, y0, h0⟩ := field_at Try.underlying27 h (i := 0) rfl rfl rfl cells_u8
  obtain ⟨m1, y1, h1⟩ := field_at Try.underlying27 h (i := 1) rfl rfl rfl cells_point
  obtain ⟨m2, y2, h2⟩ := field_at Try.underlying27 h (i := 2) rfl rfl rfl cells_int
  obtain ⟨m3, y3, h3⟩ := field_at Try.underlying27 h (i := 3) rfl rfl rfl cells_ratio
  obtain ⟨m4, y4, h4⟩ := field_at Try.underlying23 h1 (i := 0) rfl rfl rfl cells_int
  obtain ⟨m5, y5, h5⟩ := field_at Try.underlying23 h1 (i := 1) rfl rfl rfl cells_i64
  obtain ⟨m6, y6, h6⟩ := field_at Try.underlying23 h1 (i := 2) rfl rfl rfl cells_i64
  obtain ⟨m7, y7, h7⟩ := field_at Try.underlying25 h3 (i := 0) rfl rfl rfl cells_i64
  obtain ⟨m8, y8, h8⟩ := field_at Try.underlying25 h3 (i := 1) rfl rfl rfl cells_i64
  obtain ⟨k, e0, w0⟩ := int_cell Try.underlying5 h0
  obtain ⟨j, e2, w2⟩ := int_cell Try.underlying3 h2
  obtain ⟨i, e4, w4⟩ := int_cell Try.underlying3 h4
  obtain ⟨a, e5, w5⟩ := int_cell Try.underlying2 h5
  obtain ⟨b, e6, w6⟩ := int_cell Try.underlying2 h6
  obtain ⟨n, e7, w7⟩ := int_cell Try.underlying2 h7
  obtain ⟨d, e8, w8⟩ := int_cell Try.underlying2 h8
  simp at e0 e2 e4 e5 e6 e7 e8
  subst e0 e2 e4 e5 e6 e7 e8
  exact ⟨k, i, a, b, j, n, d, rfl, ⟨wf_u8 w0, wf_i64 w4, wf_i64 w5, wf_i64 w6, wf_i64 w2, wf_i64 w7, wf_i64 w8⟩⟩
theorem ask_read (fuel : Nat) (l : List Value) (x : DataW H × List MemPlace) (h : DataW.trod enc Try.prog w base spare held fuel 27 l = some x) (hl : l.length = 7) : ∃ a : Pel.Ask, l = a.cells ∧ a.Fits := by
  obtain ⟨k, i, a, b, j, n, d, rfl, ⟨h1, h2, h3, h4, h5, h6, h7⟩⟩ := ask_cells h hl
  exact ⟨⟨k, i, a, b, j, n, d⟩, rfl, ⟨h1, h2, h3, h4, h5, h6, h7⟩⟩
end
end Go.Proofs.Ytijinelgbiombaa
