/- decode.scan: the ask that some bytes tell. -/
import Derived.Test.YtijinelgbiombaaDec5
import Derived.Test.YtijinelgbiombaaDec7
import Derived.Test.YtijinelgbiombaaDec11
import Derived.Deep.RegionHeld3
set_option linter.unusedSimpArgs false
set_option linter.unusedVariables false
namespace Go.Proofs.Ytijinelgbiombaa
open Go.RowKit Go.Pel
theorem ofInt_i64 (a : Nat) (ha : a < 9223372036854775808) : (BitVec.ofInt 64 (a : Int)).toNat = a := by
  rw [BitVec.ofInt_natCast, BitVec.toNat_ofNat]; exact Nat.mod_eq_of_lt (by omega)
theorem i64_or_nat (a b : Nat) (ha : a < 9223372036854775808) (hb : b < 9223372036854775808) : bits .or .i64 (a : Int) (b : Int) = ((a ||| b : Nat) : Int) := by
  have hx : a ||| b < 2 ^ 63 := Nat.or_lt_two_pow (by omega) (by omega)
  show IntKind.i64.wrap ((BitVec.ofInt 64 (a : Int) ||| BitVec.ofInt 64 (b : Int)).toNat : Int) = _
  rw [BitVec.toNat_or, ofInt_i64 a ha, ofInt_i64 b hb, IntKind.wrap_i64]
  omega
/-- a byte more -/
theorem or_byte (m : Int) (c : Nat) (h0 : 0 ≤ m) (hm : m ≤ 36028797018963) (hc : c < 256) : bits .or .i64 (m * 256) (c : Int) = m * 256 + c := by
  obtain ⟨k, rfl⟩ := Int.eq_ofNat_of_zero_le h0
  have e := i64_or_nat (k * 256) c (by omega) (by omega)
  have e2 : k * 256 ||| c = k * 256 + c := by
    have := Nat.shiftLeft_add_eq_or_of_lt (i := 8) (b := c) (by simpa using hc) k
    rw [Nat.shiftLeft_eq] at this
    exact this.symm
  rw [e2] at e
  simpa using e
theorem or_zero (c : Nat) (hc : c < 256) : bits .or .i64 0 (c : Int) = c := by
  have := or_byte 0 c (by omega) (by omega) hc
  simpa using this
theorem valAt2 {l : List UInt8} {at0 : Nat} {x y : UInt8} (hx : l[at0]? = some x) (hy : l[at0 + 1]? = some y) : (valAt l at0 2 : Int) = (x.toNat : Int) * 256 + y.toNat := by
  rw [valAt_in (k := 1) hy, valAt_in (k := 0) hx]; simp [valAt]
theorem valAt3 {l : List UInt8} {at0 : Nat} {x y z : UInt8} (hx : l[at0]? = some x) (hy : l[at0 + 1]? = some y) (hz : l[at0 + 2]? = some z) : (valAt l at0 3 : Int) = ((x.toNat : Int) * 256 + y.toNat) * 256 + z.toNat := by
  rw [valAt_in (k := 2) hz, valAt_in (k := 1) hy, valAt_in (k := 0) hx]; simp [valAt]
theorem valAt4 {l : List UInt8} {at0 : Nat} {x y z u : UInt8} (hx : l[at0]? = some x) (hy : l[at0 + 1]? = some y) (hz : l[at0 + 2]? = some z) (hu : l[at0 + 3]? = some u) : (valAt l at0 4 : Int) = (((x.toNat : Int) * 256 + y.toNat) * 256 + z.toNat) * 256 + u.toNat := by
  rw [valAt_in (k := 3) hu, valAt_in (k := 2) hz, valAt_in (k := 1) hy, valAt_in (k := 0) hx]; simp [valAt]
set_option maxHeartbeats 400000 in
theorem fields_exact (w : World) :
    Calls Try.prog 29 #[] w fun e w' => e = .returned (.agg #[.slice none 0 0, .slice (some ⟨w.heap.size + 1, 0, none⟩) 3 3, .slice (some ⟨w.heap.size + 2, 0, none⟩) 1 1, .slice (some ⟨w.heap.size + 1, 0, none⟩) 3 3, .slice (some ⟨w.heap.size + 3, 0, none⟩) 2 2, .slice none 0 0, .slice none 0 0]) ∧ w' = (((w.alloc (.cells #[.slice none 0 0, .slice (some ⟨w.heap.size + 1, 0, none⟩) 3 3, .slice (some ⟨w.heap.size + 2, 0, none⟩) 1 1, .slice (some ⟨w.heap.size + 1, 0, none⟩) 3 3, .slice (some ⟨w.heap.size + 3, 0, none⟩) 2 2, .slice none 0 0, .slice none 0 0] 59)).alloc (.cells #[.int .i64 1, .int .i64 2, .int .i64 0, .int .i64 2, .int .i64 3, .int .i64 1048576, .int .i64 3, .int .i64 3, .int .i64 1048576] 62)).alloc (.cells #[.int .i64 0, .int .i64 2, .int .i64 0] 62)).alloc (.cells #[.int .i64 4, .int .i64 4, .int .i64 1073741824, .int .i64 5, .int .i64 2, .int .i64 0] 62) := by
  go_enter Try.func29, Try.ntmps29
  go_wp2
  exact bodyPost_ret (v := .agg #[.slice none 0 0, .slice (some ⟨w.heap.size + 1, 0, none⟩) 3 3, .slice (some ⟨w.heap.size + 2, 0, none⟩) 1 1, .slice (some ⟨w.heap.size + 1, 0, none⟩) 3 3, .slice (some ⟨w.heap.size + 3, 0, none⟩) 2 2, .slice none 0 0, .slice none 0 0]) (by simp [results, Try.results29, go_sem]) rfl ⟨rfl, rfl⟩
def ScanPost (l : List UInt8) (w : World) (e : Ending) (w' : World) : Prop :=
  ∃ k i a b j n d : Int, e = .returned (.tuple #[.agg #[.int .u8 k, .int .i64 i, .int .i64 a, .int .i64 b, .int .i64 j, .int .i64 n, .int .i64 d], .bool (firstOk l)]) ∧ (firstOk l = true → (⟨k, i, a, b, j, n, d⟩ : Pel.Ask) = plainAsk l) ∧ ∃ x, w' = ext w x
theorem scanPost_no {l : List UInt8} {w W : World} (h : firstOk l = false) (hb : Bel w W) : ScanPost l w (.returned (.tuple #[.agg #[.int .u8 0, .int .i64 0, .int .i64 0, .int .i64 0, .int .i64 0, .int .i64 0, .int .i64 0], .bool false])) W :=
  ⟨0, 0, 0, 0, 0, 0, 0, (by rw [h]), (fun hh => by rw [h] at hh; cases hh), ext_of hb⟩
theorem scanPost_ok {k i a b j n d : Int} {l : List UInt8} {w W : World} (hf : firstOk l = decide ((plainAsk l).chk = 0)) (hp : plainAsk l = ⟨k, i, a, b, j, n, d⟩) (e0 : askChk k i a b j n d = 0) (hb : Bel w W) :
    ScanPost l w (.returned (.tuple #[.agg #[.int .u8 k, .int .i64 i, .int .i64 a, .int .i64 b, .int .i64 j, .int .i64 n, .int .i64 d], .bool true])) W := by
  have hc : (plainAsk l).chk = 0 := by rw [hp]; exact e0
  have hf' : firstOk l = true := by rw [hf, hc]; rfl
  exact ⟨k, i, a, b, j, n, d, (by rw [hf']), (fun _ => hp.symm), ext_of hb⟩
theorem scanPost_bad {k i a b j n d : Int} {l : List UInt8} {w W : World} (hf : firstOk l = decide ((plainAsk l).chk = 0)) (hp : plainAsk l = ⟨k, i, a, b, j, n, d⟩) (e0 : askChk k i a b j n d = 8) (hb : Bel w W) :
    ScanPost l w (.returned (.tuple #[.agg #[.int .u8 k, .int .i64 i, .int .i64 a, .int .i64 b, .int .i64 j, .int .i64 n, .int .i64 d], .bool false])) W := by
  have hc : (plainAsk l).chk = 8 := by rw [hp]; exact e0
  have hf' : firstOk l = false := by rw [hf, hc]; rfl
  exact ⟨k, i, a, b, j, n, d, (by rw [hf']), (fun h => by rw [hf'] at h; cases h), ext_of hb⟩
set_option maxRecDepth 10000 in
set_option maxHeartbeats 1000000 in
theorem scan_no (A : Option Addr) (c : Nat) (l : List UInt8) (w : World) (hs : Sl w 1 A l.length c (vb l)) (hl : l.length ≤ 1000000) (hbad : l.length = 0 ∨ ∃ x, l[0]? = some x ∧ (((x.toNat : Int) < 1 ∨ 6 < (x.toNat : Int)) ∨ l.length < askLen x.toNat)) :
    Calls Try.prog 32 #[.slice A l.length c] w (ScanPost l w) := by
  by_cases h0 : l.length = 0
  · have hno := Lib.hid (firstOk_no (l := l) (.inl h0))
    have z0 : ((l.length : Int) == 0) = true := by rw [beq_iff_eq]; omega
    clear hbad h0
    go_enter Try.func32, Try.ntmps32
    go_wp2
    go_step3
    go_wp2
    rw [Exit.noGoto_ret]
    exact bodyPost_ret (v := .tuple #[.agg #[.int .u8 0, .int .i64 0, .int .i64 0, .int .i64 0, .int .i64 0, .int .i64 0, .int .i64 0], .bool false]) (by simp [results, Try.results32, go_sem]) rfl (scanPost_no hno.out (by (try simp only [ext_ext]); repeat (first | exact Bel.refl _ | assumption | refine bel_and ?_ _ | refine bel_drews ?_ _ | refine Bel.ext ?_ _ | refine Bel.alloc ?_ _ | refine Bel.drewN ?_ _)))
  · obtain ⟨x, hx, hbad⟩ := hbad.resolve_left h0
    have z0 : ((l.length : Int) == 0) = false := by rw [beq_eq_false_iff_ne]; omega
    obtain ⟨b, o, rfl, hb⟩ := hs.at_ (by omega)
    have hcell := sl_byte hs hx
    rw [Nat.add_zero] at hcell
    have hx256 := UInt8.toNat_lt x
    have hpos : 0 < l.length := by omega
    by_cases h1 : (x.toNat : Int) < 1 ∨ 6 < (x.toNat : Int)
    · have hno := Lib.hid (firstOk_bad hx h1)
      clear hbad hx h0
      go_enter Try.func32, Try.ntmps32
      go_wp2
      go_step3
      rcases h1 with h1 | h1
      all_goals (
        go_wp2
        rw [Exit.noGoto_ret]
        exact bodyPost_ret (v := .tuple #[.agg #[.int .u8 0, .int .i64 0, .int .i64 0, .int .i64 0, .int .i64 0, .int .i64 0, .int .i64 0], .bool false]) (by simp [results, Try.results32, go_sem]) rfl (scanPost_no hno.out (by (try simp only [ext_ext]); repeat (first | exact Bel.refl _ | assumption | refine bel_and ?_ _ | refine bel_drews ?_ _ | refine Bel.ext ?_ _ | refine Bel.alloc ?_ _ | refine Bel.drewN ?_ _)))
      )
    · have h2 := hbad.resolve_left h1
      have hno := Lib.hid (firstOk_short hx h2)
      have b1 := Lib.hid (decSize_any x.toNat)
      clear hbad hx h0
      go_enter Try.func32, Try.ntmps32
      go_wp2
      go_step3
      go_wp2_with (go_at_call 33; refine (b1.out _ (by omega) (by omega)).mono ?_; rintro e _ ⟨rfl, nx, rfl⟩)
      rw [Exit.noGoto_ret]
      exact bodyPost_ret (v := .tuple #[.agg #[.int .u8 0, .int .i64 0, .int .i64 0, .int .i64 0, .int .i64 0, .int .i64 0, .int .i64 0], .bool false]) (by simp [results, Try.results32, go_sem]) rfl (scanPost_no hno.out (by (try simp only [ext_ext]); repeat (first | exact Bel.refl _ | assumption | refine bel_and ?_ _ | refine bel_drews ?_ _ | refine Bel.ext ?_ _ | refine Bel.alloc ?_ _ | refine Bel.drewN ?_ _)))

end Go.Proofs.Ytijinelgbiombaa
