/- decode.set: one number of an ask is written. -/
import Derived.Test.YtijinelgbiombaaDec1
set_option linter.unusedSimpArgs false
set_option linter.unusedVariables false
namespace Go.Proofs.Ytijinelgbiombaa
open Go.RowKit Go.Pel
set_option maxHeartbeats 400000 in
theorem set_0 (b : Nat) (n : Int) (v : Value) (w : World) (hn : -9223372036854775808 ≤ n ∧ n ≤ 9223372036854775807) (hc : w.cell? ⟨b, 4, none⟩ = some v) (hf : w.frozen? ⟨b, 4, none⟩ = false) :
    Calls Try.prog 39 #[.pointer (some ⟨b, 0, none⟩), .int .i64 0, .int .i64 n] w fun e w' => e = .returned (.tuple #[]) ∧ w' = w.setCell ⟨b, 4, none⟩ (.int .i64 n) := by
  obtain ⟨hn1, hn2⟩ := hn
  go_enter Try.func39, Try.ntmps39
  go_wp2
  go_end0
  exact ⟨rfl, rfl⟩
set_option maxHeartbeats 400000 in
theorem set_1 (b : Nat) (n : Int) (v : Value) (w : World) (hn : -9223372036854775808 ≤ n ∧ n ≤ 9223372036854775807) (hc : w.cell? ⟨b, 1, none⟩ = some v) (hf : w.frozen? ⟨b, 1, none⟩ = false) :
    Calls Try.prog 39 #[.pointer (some ⟨b, 0, none⟩), .int .i64 1, .int .i64 n] w fun e w' => e = .returned (.tuple #[]) ∧ w' = w.setCell ⟨b, 1, none⟩ (.int .i64 n) := by
  obtain ⟨hn1, hn2⟩ := hn
  go_enter Try.func39, Try.ntmps39
  go_wp2
  go_end0
  exact ⟨rfl, rfl⟩
set_option maxHeartbeats 400000 in
theorem set_2 (b : Nat) (n : Int) (v : Value) (w : World) (hn : -9223372036854775808 ≤ n ∧ n ≤ 9223372036854775807) (hc : w.cell? ⟨b, 2, none⟩ = some v) (hf : w.frozen? ⟨b, 2, none⟩ = false) :
    Calls Try.prog 39 #[.pointer (some ⟨b, 0, none⟩), .int .i64 2, .int .i64 n] w fun e w' => e = .returned (.tuple #[]) ∧ w' = w.setCell ⟨b, 2, none⟩ (.int .i64 n) := by
  obtain ⟨hn1, hn2⟩ := hn
  go_enter Try.func39, Try.ntmps39
  go_wp2
  go_end0
  exact ⟨rfl, rfl⟩
set_option maxHeartbeats 400000 in
theorem set_3 (b : Nat) (n : Int) (v : Value) (w : World) (hn : -9223372036854775808 ≤ n ∧ n ≤ 9223372036854775807) (hc : w.cell? ⟨b, 3, none⟩ = some v) (hf : w.frozen? ⟨b, 3, none⟩ = false) :
    Calls Try.prog 39 #[.pointer (some ⟨b, 0, none⟩), .int .i64 3, .int .i64 n] w fun e w' => e = .returned (.tuple #[]) ∧ w' = w.setCell ⟨b, 3, none⟩ (.int .i64 n) := by
  obtain ⟨hn1, hn2⟩ := hn
  go_enter Try.func39, Try.ntmps39
  go_wp2
  go_end0
  exact ⟨rfl, rfl⟩
set_option maxHeartbeats 400000 in
theorem set_4 (b : Nat) (n : Int) (v : Value) (w : World) (hn : -9223372036854775808 ≤ n ∧ n ≤ 9223372036854775807) (hc : w.cell? ⟨b, 5, none⟩ = some v) (hf : w.frozen? ⟨b, 5, none⟩ = false) :
    Calls Try.prog 39 #[.pointer (some ⟨b, 0, none⟩), .int .i64 4, .int .i64 n] w fun e w' => e = .returned (.tuple #[]) ∧ w' = w.setCell ⟨b, 5, none⟩ (.int .i64 n) := by
  obtain ⟨hn1, hn2⟩ := hn
  go_enter Try.func39, Try.ntmps39
  go_wp2
  go_end0
  exact ⟨rfl, rfl⟩
set_option maxHeartbeats 400000 in
theorem set_5 (b : Nat) (n : Int) (v : Value) (w : World) (hn : -9223372036854775808 ≤ n ∧ n ≤ 9223372036854775807) (hc : w.cell? ⟨b, 6, none⟩ = some v) (hf : w.frozen? ⟨b, 6, none⟩ = false) :
    Calls Try.prog 39 #[.pointer (some ⟨b, 0, none⟩), .int .i64 5, .int .i64 n] w fun e w' => e = .returned (.tuple #[]) ∧ w' = w.setCell ⟨b, 6, none⟩ (.int .i64 n) := by
  obtain ⟨hn1, hn2⟩ := hn
  go_enter Try.func39, Try.ntmps39
  go_wp2
  go_end0
  exact ⟨rfl, rfl⟩
end Go.Proofs.Ytijinelgbiombaa
