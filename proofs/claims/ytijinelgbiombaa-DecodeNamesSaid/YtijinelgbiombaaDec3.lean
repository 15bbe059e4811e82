/- Bytes: the reference's digits. -/
import Derived.Test.YtijinelgbiombaaMem
import Derived.Test.YtijinelgbiombaaDec1
set_option linter.unusedSimpArgs false
set_option linter.unusedVariables false
namespace Go.Proofs.Ytijinelgbiombaa
open Go.RowKit Go.Pel
theorem slt_bytes : SlT Try.prog 28 5 (.int .u8 0) 1 1 := ⟨by kernel_rfl, by kernel_rfl, by kernel_rfl, by decide, by decide⟩
theorem made_bytes (n : Nat) : (madeCells (Value.int .u8 0).cells (n * 1)).toList = vb (List.replicate n 0) := by
  rw [Nat.mul_one, show (Value.int .u8 0).cells = #[.int .u8 0] from rfl, toList_madeCells_one]; simp [vb]
set_option maxHeartbeats 400000 in
theorem digits_any (n wd : Nat) (w : World) (hn : n < 18446744073709551616) (hw : wd ≤ 8) :
    Calls Try.prog 45 #[.int .u64 n, .int .i64 wd] w fun e w' => ∃ A c, e = .returned (.slice A wd c) ∧ ∃ x, w' = ext w x ∧ Own (ext w x) w.heap.size 5 1 A wd c (vb (dig wd n)) := by
  go_enter Try.func45, Try.ntmps45
  go_wp2_with (refine make_ext slt_bytes (Bel.refl w) (by omega) rfl _ _ rfl rfl rfl ?_; rintro g y hg hown)
  rw [made_bytes] at hown
  go_loopw [0, 6] (fun a i wr => ∃ (k m : Nat) (y : Beyond), k ≤ wd ∧ a = .int .u64 m ∧ i = .int .i64 ((wd : Int) - 1 - k) ∧ m < 18446744073709551616 ∧ m = n / 256 ^ k ∧ wr = ext w y ∧ Own wr w.heap.size 5 1 (some ⟨g, 0, none⟩) wd wd (vb (List.replicate (wd - k) 0 ++ dig k n))) (fun _ i _ => (intOf i + 1).toNat)
  case atStart => exact ⟨0, n, y, by omega, rfl, by simp, hn, by simp, rfl, by simpa [dig] using hown⟩
  case round =>
    clear hown
    obtain ⟨k, m, y1, hk, rfl, rfl, hm, hmk, rfl, hown⟩ := hrel
    have HM := Lib.hid hmk; clear hmk
    by_cases hlt : k < wd
    · obtain ⟨j, hj1, hj2⟩ : ∃ j : Nat, j + k + 1 ≤ wd ∧ wd ≤ j + k + 1 := ⟨wd - 1 - k, by omega, by omega⟩
      have hcell := own_cell hown (j := j) (u := .int .u8 0) (by rw [vb_get, List.getElem?_append_left (by rw [List.length_replicate]; omega), List.getElem?_replicate, if_pos (by omega)]; rfl)
      have hfz := own_frozen hown j
      rw [show ((wd : Int) - 1 - k) = (j : Int) from by omega]
      go_wp2
      obtain ⟨y2, hy2, hown2⟩ := own_store hown hg j (.int .u8 ((m : Int) % 256))
      rw [hy2]
      go_roundw
      case rel =>
        refine ⟨k + 1, m / 256, y2, by omega, by simp, ?_, by omega, ?_, rfl, ?_⟩
        · exact congrArg _ (by omega)
        · rw [HM.out, Nat.pow_succ, Nat.div_div_eq_div_mul]
        · rw [← dig_set wd k n hlt, show wd - 1 - k = j from by omega]
          have hv : (vb (List.replicate (wd - k) 0 ++ dig k n)).set j (.int .u8 ((m : Int) % 256)) = vb ((List.replicate (wd - k) 0 ++ dig k n).set j (UInt8.ofNat (n / 256 ^ k))) := by
            rw [← HM.out]; unfold vb; rw [List.map_set, ofNat_mod]
          rw [← hv]; exact hown2
      case measure => simp [intOf]
    · obtain rfl : k = wd := by omega
      go_wp2
      go_ret
      exact ⟨_, _, rfl, y1, rfl, by simpa using hown⟩
end Go.Proofs.Ytijinelgbiombaa
