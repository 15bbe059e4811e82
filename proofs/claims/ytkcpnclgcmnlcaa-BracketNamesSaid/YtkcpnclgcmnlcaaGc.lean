/- Walks of courses and of the sorts; the order as plain mathematics. -/
import Derived.IntWalk
import Derived.Shelf.Small.Bits
import Derived.Shelf.Small.Wraps
import Derived.Shelf.Strconv.Itoa0
import Derived.Shelf.Bits.Mul64
import Derived.Shelf.Slices.Turned
import Derived.Ground.Names2Prog
import Derived.Shelf.Slices.Clone
import Derived.Shelf.Slices.SearchI
import Derived.Ground.SlgnProg
import Derived.Shelf.SlicesE.Clone
import Derived.Test.YtkcpnclgcmnlcaaProg
import Derived.Shelf.Spec.BitsCarry
import Derived.Deep.RegionHeld3
import Derived.Outline
import Derived.Sort.Statements
import Derived.Shelf.SlSortCmp.Insertion
import Derived.Shelf.SlSortCmp.NoneTotal
import Derived.Test.YtkcpnclgcmnlcaaGb
set_option linter.unusedSimpArgs false
set_option linter.unusedVariables false
namespace Go.Pel
open Go Go.RowKit
/-- unsigned reading of a number of 64 bits -/
def un (a : Int) : Nat := (a % 18446744073709551616).toNat
theorem un_lt (a : Int) : un a < 18446744073709551616 := by unfold un; omega
theorem un_cast (a : Int) : ((un a : Nat) : Int) = a % 18446744073709551616 := by unfold un; omega
theorem un_pos {a : Int} (h : 0 ≤ a) (h2 : a < 9223372036854775808) : ((un a : Nat) : Int) = a := by rw [un_cast]; omega
theorem un_neg {a : Int} (h : a < 0) (h2 : -9223372036854775808 ≤ a) : ((un a : Nat) : Int) = a + 18446744073709551616 := by rw [un_cast]; omega
/-- the product of two numbers with signs, out of that of their unsigned readings -/
theorem mul_un (a b : Int) (ha : -9223372036854775808 ≤ a ∧ a < 9223372036854775808) (hb : -9223372036854775808 ≤ b ∧ b < 9223372036854775808) :
    ((un a * un b : Nat) : Int) = a * b + 18446744073709551616 * ((if a < 0 then b else 0) + (if b < 0 then a else 0)) + (if a < 0 ∧ b < 0 then 340282366920938463463374607431768211456 else 0) := by
  have e : ((un a * un b : Nat) : Int) = (un a : Int) * (un b : Int) := by simp
  rw [e]
  by_cases h1 : a < 0 <;> by_cases h2 : b < 0
  · rw [un_neg h1 ha.1, un_neg h2 hb.1]
    simp only [h1, h2, if_true, and_self, Int.add_mul, Int.mul_add]
    have : b * 18446744073709551616 = 18446744073709551616 * b := Int.mul_comm _ _
    omega
  · rw [un_neg h1 ha.1, un_pos (by omega) hb.2]
    simp only [h1, h2, if_true, if_false, and_false, Int.add_mul, Int.mul_add]
    omega
  · rw [un_pos (by omega) ha.2, un_neg h2 hb.1]
    simp only [h1, h2, if_true, if_false, false_and, Int.add_mul, Int.mul_add]
    omega
  · rw [un_pos (by omega) ha.2, un_pos (by omega) hb.2]
    simp only [h1, h2, if_false, false_and]
    omega
/-- the upper half of a product, as the code reckons it -/
def hiOf (a b : Int) : Int := wrap64 (wrap64 (wrap64 ((un a * un b / 18446744073709551616 : Nat) : Int) - (if a < 0 then b else 0)) - (if b < 0 then a else 0))
theorem hiOf_eq (a b : Int) (ha : -9223372036854775808 ≤ a ∧ a < 9223372036854775808) (hb : -9223372036854775808 ≤ b ∧ b < 9223372036854775808) (hP : -77371252455336267181195264 ≤ a * b ∧ a * b ≤ 77371252455336267181195264) : hiOf a b = a * b / 18446744073709551616 := by
  have h := mul_un a b ha hb
  unfold hiOf
  generalize un a * un b = U at h
  generalize a * b = P at h hP ⊢
  unfold wrap64
  by_cases h1 : a < 0 <;> by_cases h2 : b < 0 <;> simp only [h1, h2, if_true, if_false, and_true, and_false, and_self, Int.sub_zero, Int.add_zero, Int.zero_add, Int.mul_zero] at h ⊢ <;> omega
theorem loOf_eq (a b : Int) (ha : -9223372036854775808 ≤ a ∧ a < 9223372036854775808) (hb : -9223372036854775808 ≤ b ∧ b < 9223372036854775808) : ((un a * un b % 18446744073709551616 : Nat) : Int) = a * b % 18446744073709551616 := by
  have h := mul_un a b ha hb
  generalize un a * un b = U at h ⊢
  generalize a * b = P at h ⊢
  by_cases h1 : a < 0 <;> by_cases h2 : b < 0 <;> simp only [h1, h2, if_true, if_false, and_true, and_false, and_self, Int.add_zero, Int.zero_add, Int.mul_zero] at h <;> omega
/-- how far p is ahead of q at the time n / d, times d -/
def farD (p q : Pt) (n d : Int) : Int := (p.a - q.a) * d + (p.b - q.b) * n
/-- P2.4: p is ahead of q -/
def leads (p q : Pt) (n d : Int) : Bool := if farD p q n d ≠ 0 then decide (0 < farD p q n d) else if p.b ≠ q.b then decide (q.b < p.b) else decide (p.id < q.id)
def cmpZ (a b : Int) : Int := if a < b then -1 else if b < a then 1 else 0
theorem cmpZ_lt {a b : Int} (h : a < b) : cmpZ a b = -1 := if_pos h
theorem cmpZ_gt {a b : Int} (h : b < a) : cmpZ a b = 1 := by unfold cmpZ; rw [if_neg (by omega), if_pos h]
theorem cmpZ_eq {a b : Int} (h : a = b) : cmpZ a b = 0 := by unfold cmpZ; rw [if_neg (by omega), if_neg (by omega)]
/-- the first that is not 0 -/
def orZ (x y : Int) : Int := if x ≠ 0 then x else y
theorem orZ_0 {x y : Int} (h : x = 0) : orZ x y = y := if_neg (by simpa using h)
theorem orZ_1 {x y : Int} (h : x ≠ 0) : orZ x y = x := if_pos h
/-- what course.compare returns -/
def cmpC (p q : Pt) (n d : Int) : Int := if farD p q n d < 0 then -1 else if 0 < farD p q n d then 1 else if cmpZ p.b q.b ≠ 0 then cmpZ p.b q.b else cmpZ q.id p.id
theorem cmpC_lt {p q : Pt} {n d : Int} (h : farD p q n d < 0) : cmpC p q n d = -1 := if_pos h
theorem cmpC_gt {p q : Pt} {n d : Int} (h : 0 < farD p q n d) : cmpC p q n d = 1 := by unfold cmpC; rw [if_neg (by omega), if_pos h]
theorem cmpC_b {p q : Pt} {n d : Int} (h : farD p q n d = 0) (hb : p.b ≠ q.b) : cmpC p q n d = cmpZ p.b q.b := by
  unfold cmpC; rw [if_neg (by omega), if_neg (by omega), if_pos]
  rcases Int.lt_or_gt_of_ne hb with h1 | h1
  · rw [cmpZ_lt h1]; decide
  · rw [cmpZ_gt h1]; decide
theorem cmpC_id {p q : Pt} {n d : Int} (h : farD p q n d = 0) (hb : p.b = q.b) : cmpC p q n d = cmpZ q.id p.id := by
  unfold cmpC; rw [if_neg (by omega), if_neg (by omega), if_neg (by rw [cmpZ_eq hb]; decide)]
theorem cmpC_leads (p q : Pt) (n d : Int) : decide (0 < cmpC p q n d) = leads p q n d := by
  unfold leads
  rcases (by omega : farD p q n d < 0 ∨ farD p q n d = 0 ∨ 0 < farD p q n d) with h | h | h
  · rw [cmpC_lt h, if_pos (by omega)]; simp; omega
  · rw [if_neg (by omega)]
    by_cases hb : p.b = q.b
    · rw [cmpC_id h hb, if_neg (by omega)]
      rcases (by omega : p.id < q.id ∨ q.id < p.id ∨ p.id = q.id) with h2 | h2 | h2
      · rw [cmpZ_gt h2]; simp; omega
      · rw [cmpZ_lt h2]; simp; omega
      · rw [cmpZ_eq h2.symm]; simp; omega
    · rw [cmpC_b h hb, if_pos hb]
      rcases (by omega : p.b < q.b ∨ q.b < p.b) with h1 | h1
      · rw [cmpZ_lt h1]; simp; omega
      · rw [cmpZ_gt h1]; simp; omega
  · rw [cmpC_gt h, if_pos (by omega)]; simp; omega
/-- the error of two points and a time -/
def twoChk (p q : Pt) (n d : Int) : Int := if p.chk = 0 ∧ q.chk = 0 ∧ ratioChk n d = 0 then (if p.id = q.id then 2 else 0) else 8
theorem twoChk_bad {p q : Pt} {n d : Int} (h : ¬ (p.chk = 0 ∧ q.chk = 0 ∧ ratioChk n d = 0)) : twoChk p q n d = 8 := if_neg h
theorem twoChk_same {p q : Pt} {n d : Int} (h : p.chk = 0 ∧ q.chk = 0 ∧ ratioChk n d = 0) (hi : p.id = q.id) : twoChk p q n d = 2 := by unfold twoChk; rw [if_pos h, if_pos hi]
theorem twoChk_ok {p q : Pt} {n d : Int} (h : p.chk = 0 ∧ q.chk = 0 ∧ ratioChk n d = 0) (hi : p.id ≠ q.id) : twoChk p q n d = 0 := by unfold twoChk; rw [if_pos h, if_neg hi]
theorem twoChk_zero {p q : Pt} {n d : Int} (h : twoChk p q n d = 0) : p.chk = 0 ∧ q.chk = 0 ∧ ratioChk n d = 0 ∧ p.id ≠ q.id := by
  unfold twoChk at h
  split at h
  · rename_i h1
    split at h
    · omega
    · exact ⟨h1.1, h1.2.1, h1.2.2, ‹_›⟩
  · omega
/-- P2.4: Ahead -/
def aheadV (p q : Pt) (n d : Int) : Bool × Int := if twoChk p q n d = 0 then (leads p q n d, 0) else (false, twoChk p q n d)
end Go.Pel

namespace Go.Proofs
open Go.Shelf
def Try.lays122_ren : Go.Shelf.Ren := ⟨fun | 122 => 99 | 215 => 119 | n => n, fun | 3 => 3 | 4 => 4 | n => n, fun | n => n⟩
theorem Try.lays122 : Go.Proofs.Lays.n122 Try.prog Try.lays122_ren := {
  mixed := by kernel_rfl
  f122 := Try.func99.trans (congrArg some (by kernel_rfl))
  f215 := Try.func119.trans (congrArg some (by kernel_rfl))
  t3 := Try.underlying3
  a3 := Try.isAgg3
  z3 := Try.sizeOf3
  v3 := Try.zeroValue3
  t4 := Try.underlying4
  a4 := Try.isAgg4
  z4 := Try.sizeOf4
  v4 := Try.zeroValue4 }
open Go.RowKit in
/-- cmp.Compare at int: "Compare returns -1 if x is less than y, 0 if x equals y, +1 if x is greater than y.": IT RETURNS 'Lib.compareInt x y'; the world is as it was. (LAID: no walk: one application.) -/
theorem Try.cmp_Compare_int (x y : Int) (w : World) :
    Calls Try.prog 99 #[.int .i64 x, .int .i64 y] w fun e w' => e = .returned (.int .i64 (Lib.compareInt x y)) ∧ w' = w := Any.cmp_Compare_int Try.lays122 x y w
def Try.lays264_ren : Go.Shelf.Ren := ⟨fun | 264 => 128 | n => n, fun | 53 => 142 | 46 => 155 | n => n, fun | n => n⟩
theorem Try.lays264 : Go.Proofs.Lays.n264 Try.prog Try.lays264_ren := {
  mixed := by kernel_rfl
  f264 := Try.func128.trans (congrArg some (by kernel_rfl))
  t46 := Try.underlying155
  a46 := Try.isAgg155
  z46 := Try.sizeOf155
  v46 := Try.zeroValue155
  t53 := Try.underlying142
  a53 := Try.isAgg142
  z53 := Try.sizeOf142
  v53 := Try.zeroValue142 }
open Go.RowKit Go.Lib in
theorem Try.bits_Mul64 (x y : Nat) (hx : x < 18446744073709551616) (hy : y < 18446744073709551616) (w : World) :
    Calls Try.prog 128 #[.int .u64 x, .int .u64 y] w fun e w' => e = .returned (.tuple #[.int .u64 ((x * y / 18446744073709551616 : Nat) : Int), .int .u64 ((x * y % 18446744073709551616 : Nat) : Int)]) ∧ w' = w := Any.bits_Mul64 Try.lays264 x y hx hy w
end Go.Proofs

namespace Go.Proofs.Ytkcpnclgcmnlcaa
open Go.RowKit Go.Pel
theorem add64_run (x y c : Nat) (hx : x < 18446744073709551616) (hy : y < 18446744073709551616) (hc : c ≤ 1) (w : World) :
    (callFunc 129 #[.int .u64 x, .int .u64 y, .int .u64 c]).run Try.prog w =
      .ok (.value (.tuple #[.int .u64 (((x + y + c) % 18446744073709551616 : Nat) : Int), .int .u64 (((x + y + c) / 18446744073709551616 : Nat) : Int)])) w := by
  rw [run_callFunc_extern Try.func129 (by kernel_rfl) (by kernel_rfl) (by kernel_rfl) (e := add64Entry) (by kernel_rfl), run_add64 x y c (by omega) (by omega) (by omega) (by omega)]
  simp only [Result.andThen]
  congr 5 <;> omega
theorem hi_cases {a b Z : Int} {H : Nat} (hH : un a * un b / 18446744073709551616 = H) (hZ : hiOf a b = Z) : (decide (a < 0) = true ∧ decide (b < 0) = true ∧ wrap64 (wrap64 (wrap64 (H : Int) - b) - a) = Z) ∨ (decide (a < 0) = true ∧ decide (b < 0) = false ∧ wrap64 (wrap64 (H : Int) - b) = Z) ∨ (decide (a < 0) = false ∧ decide (b < 0) = true ∧ wrap64 (wrap64 (H : Int) - a) = Z) ∨ (decide (a < 0) = false ∧ decide (b < 0) = false ∧ wrap64 (H : Int) = Z) := by
  have w2 : ∀ x, wrap64 (wrap64 x) = wrap64 x := fun x => by unfold wrap64; omega
  unfold hiOf at hZ
  rw [hH] at hZ
  by_cases h1 : a < 0 <;> by_cases h2 : b < 0 <;> simp only [h1, h2, if_true, if_false, Int.sub_zero, w2] at hZ <;> simp [h1, h2, hZ]
theorem mul_c (a b : Int) (H L : Nat) (hH : un a * un b / 18446744073709551616 = H) (hL : un a * un b % 18446744073709551616 = L) (w : World) :
    Calls Try.prog 128 #[.int .u64 (IntKind.u64.wrap a), .int .u64 (IntKind.u64.wrap b)] w fun e w' => e = .returned (.tuple #[.int .u64 (H : Int), .int .u64 (L : Int)]) ∧ ∃ x, w' = ext w x := by
  have h := Try.bits_Mul64 (un a) (un b) (un_lt a) (un_lt b) w
  rw [hH, hL] at h
  have e1 : ((un a : Nat) : Int) = IntKind.u64.wrap a := by rw [un_cast, IntKind.wrap_u64]
  have e2 : ((un b : Nat) : Int) = IntKind.u64.wrap b := by rw [un_cast, IntKind.wrap_u64]
  rw [e1, e2] at h
  exact h.mono fun _ _ ⟨he, hw⟩ => ⟨he, ext_of (hw ▸ Bel.refl _)⟩
theorem add0_run (L : Nat) (hL : L < 18446744073709551616) (w : World) : (callFunc 129 #[.int .u64 0, .int .u64 (L : Int), .int .u64 0]).run Try.prog w = .ok (.value (.tuple #[.int .u64 (L : Int), .int .u64 0])) w := by
  have h := add64_run 0 L 0 (by omega) hL (by omega) w
  have e1 : (0 + L + 0) % 18446744073709551616 = L := by omega
  have e2 : (0 + L + 0) / 18446744073709551616 = 0 := by omega
  rw [e1, e2] at h
  exact h
set_option maxRecDepth 10000 in
set_option maxHeartbeats 8000000 in
theorem sum_any (a b c d : Int) (w : World) (ha : -9223372036854775808 ≤ a ∧ a < 9223372036854775808) (hb : -9223372036854775808 ≤ b ∧ b < 9223372036854775808) (hc : -9223372036854775808 ≤ c ∧ c < 9223372036854775808) (hd : -9223372036854775808 ≤ d ∧ d < 9223372036854775808)
    (hab : -38685626227668133590597632 ≤ a * b ∧ a * b ≤ 38685626227668133590597632) (hcd : -38685626227668133590597632 ≤ c * d ∧ c * d ≤ 38685626227668133590597632) :
    Calls Try.prog 116 #[.agg #[.int .i64 a, .int .i64 b, .int .i64 c, .int .i64 d]] w fun e w' => e = .returned (.agg #[.int .i64 ((a * b + c * d) / 18446744073709551616), .int .u64 ((a * b + c * d) % 18446744073709551616)]) ∧ ∃ x, w' = ext w x := by
  have i0 : ∀ w, (Instr.index 152 (.agg #[.int .i64 a, .int .i64 b, .int .i64 c, .int .i64 d]) (.int .i64 0)).run Try.prog w = .ok (.agg #[.int .i64 a, .int .i64 b]) w := fun _ => by kernel_rfl
  have i1 : ∀ w, (Instr.index 152 (.agg #[.int .i64 a, .int .i64 b, .int .i64 c, .int .i64 d]) (.int .i64 1)).run Try.prog w = .ok (.agg #[.int .i64 c, .int .i64 d]) w := fun _ => by kernel_rfl
  obtain ⟨H1, hH1⟩ : ∃ H, un a * un b / 18446744073709551616 = H := ⟨_, rfl⟩
  obtain ⟨L1, hL1⟩ : ∃ L, un a * un b % 18446744073709551616 = L := ⟨_, rfl⟩
  obtain ⟨H2, hH2⟩ : ∃ H, un c * un d / 18446744073709551616 = H := ⟨_, rfl⟩
  obtain ⟨L2, hL2⟩ : ∃ L, un c * un d % 18446744073709551616 = L := ⟨_, rfl⟩
  have q1 := Lib.hid (mul_c a b H1 L1 hH1 hL1)
  have q2 := Lib.hid (mul_c c d H2 L2 hH2 hL2)
  have a1 := add0_run L1 (by omega)
  have L1b : L1 < 18446744073709551616 := by omega
  have L2b : L2 < 18446744073709551616 := by omega
  obtain ⟨S, hS⟩ : ∃ S, (L1 + L2 + 0) % 18446744073709551616 = S := ⟨_, rfl⟩
  obtain ⟨C, hC⟩ : ∃ C, (L1 + L2 + 0) / 18446744073709551616 = C := ⟨_, rfl⟩
  have a2 : ∀ w, (callFunc 129 #[.int .u64 (L1 : Int), .int .u64 (L2 : Int), .int .u64 0]).run Try.prog w = .ok (.value (.tuple #[.int .u64 (S : Int), .int .u64 (C : Int)])) w := fun w => by
    have h := add64_run L1 L2 0 L1b L2b (by omega) w
    rw [hS, hC] at h; exact h
  obtain ⟨Z1, hZ1⟩ : ∃ Z, hiOf a b = Z := ⟨_, rfl⟩
  obtain ⟨Z2, hZ2⟩ : ∃ Z, hiOf c d = Z := ⟨_, rfl⟩
  have z1 : Z1 = a * b / 18446744073709551616 := by rw [← hZ1]; exact hiOf_eq a b ha hb (by omega)
  have z2 : Z2 = c * d / 18446744073709551616 := by rw [← hZ2]; exact hiOf_eq c d hc hd (by omega)
  have l1 := loOf_eq a b ha hb
  have l2 := loOf_eq c d hc hd
  rw [hL1] at l1
  rw [hL2] at l2
  have k1 := hi_cases hH1 hZ1
  have k2 := hi_cases hH2 hZ2
  have w1 : wrap64 Z1 = Z1 := by unfold wrap64; omega
  have hfin : Hid (wrap64 (wrap64 (Z1 + Z2) + wrap64 (C : Int)) = (a * b + c * d) / 18446744073709551616 ∧ (S : Int) = (a * b + c * d) % 18446744073709551616) := Lib.hid (by
    have hs : (S : Int) = ((L1 : Int) + L2) % 18446744073709551616 := by omega
    have hcc : (C : Int) = ((L1 : Int) + L2) / 18446744073709551616 := by omega
    generalize a * b = P1 at *
    generalize c * d = P2 at *
    unfold wrap64
    constructor <;> omega)
  have HF := hfin
  clear hH1 hL1 hH2 hL2 hS hC hZ1 hZ2 z1 z2 l1 l2 hab hcd hfin L1b L2b
  obtain ⟨ha1, ha2⟩ := ha; obtain ⟨hb1, hb2⟩ := hb; obtain ⟨hc1, hc2⟩ := hc; obtain ⟨hd1, hd2⟩ := hd
  rcases k1 with ⟨sa, sb, e1⟩ | ⟨sa, sb, e1⟩ | ⟨sa, sb, e1⟩ | ⟨sa, sb, e1⟩
  all_goals
    rcases k2 with ⟨sc, sd, e2⟩ | ⟨sc, sd, e2⟩ | ⟨sc, sd, e2⟩ | ⟨sc, sd, e2⟩
  all_goals
    go_enter Try.func116, Try.ntmps116
    go_wp2
    refine wp_loop_rounds 3 ?_
    rw [rounds_succ]
    go_wp2_with ((go_at_call 128; refine (q1.out _).mono ?_; rintro e _ ⟨rfl, y1, rfl⟩))
    rw [rounds_succ]
    go_wp2_with ((go_at_call 128; refine (q2.out _).mono ?_; rintro e _ ⟨rfl, y2, rfl⟩))
    rw [rounds_succ]
    go_wp2
    exact bodyPost_ret (v := .agg #[.int .i64 (wrap64 (wrap64 (Z1 + Z2) + wrap64 (C : Int))), .int .u64 (S : Int)]) (by simp [results, Try.results116, go_sem]) rfl ⟨by rw [HF.out.1, HF.out.2], ext_of (by (try simp only [ext_ext]); repeat (first | exact Bel.refl _ | assumption | refine bel_and ?_ _ | refine bel_drews ?_ _ | refine Bel.ext ?_ _ | refine Bel.alloc ?_ _ | refine Bel.drewN ?_ _))⟩
end Go.Proofs.Ytkcpnclgcmnlcaa

namespace Go.Proofs.Ytkcpnclgcmnlcaa
open Go.RowKit Go.Pel
set_option maxHeartbeats 400000 in
theorem cmpZ_any (a b : Int) (w : World) : Calls Try.prog 99 #[.int .i64 a, .int .i64 b] w fun e w' => e = .returned (.int .i64 (cmpZ a b)) ∧ ∃ x, w' = ext w x := cmpInt_any a b w
set_option maxHeartbeats 400000 in
theorem cmpZ64_any (a b : Int) (w : World) : Calls Try.prog 118 #[.int .i64 a, .int .i64 b] w fun e w' => e = .returned (.int .i64 (cmpZ a b)) ∧ ∃ x, w' = ext w x := by
  rcases (by omega : a < b ∨ b < a ∨ a = b) with h | h | h
  · have H := Lib.hid (cmpZ_lt h)
    have h2 : ¬ b < a := by omega
    go_enter Try.func118, Try.ntmps118
    go_wp2
    (go_ret; exact ⟨ret_int (by exact H.out.symm), ext_of (by (try simp only [ext_ext]); repeat (first | exact Bel.refl _ | assumption | refine bel_and ?_ _ | refine bel_drews ?_ _ | refine Bel.ext ?_ _ | refine Bel.alloc ?_ _ | refine Bel.drewN ?_ _))⟩)
  · have H := Lib.hid (cmpZ_gt h)
    have h2 : ¬ a < b := by omega
    go_enter Try.func118, Try.ntmps118
    go_wp2
    (go_ret; exact ⟨ret_int (by exact H.out.symm), ext_of (by (try simp only [ext_ext]); repeat (first | exact Bel.refl _ | assumption | refine bel_and ?_ _ | refine bel_drews ?_ _ | refine Bel.ext ?_ _ | refine Bel.alloc ?_ _ | refine Bel.drewN ?_ _))⟩)
  · have H := Lib.hid (cmpZ_eq h)
    have h2 : ¬ a < b := by omega
    have h3 : ¬ b < a := by omega
    clear h
    go_enter Try.func118, Try.ntmps118
    go_wp2
    (go_ret; exact ⟨ret_int (by exact H.out.symm), ext_of (by (try simp only [ext_ext]); repeat (first | exact Bel.refl _ | assumption | refine bel_and ?_ _ | refine bel_drews ?_ _ | refine Bel.ext ?_ _ | refine Bel.alloc ?_ _ | refine Bel.drewN ?_ _))⟩)
set_option maxHeartbeats 1000000 in
theorem or2_any (x y : Int) (g : Nat) (w : World) (hg : g < w.heap.size) (h0 : w.cell? ⟨g, 0, none⟩ = some (.int .i64 x)) (h1 : w.cell? ⟨g, 1, none⟩ = some (.int .i64 y)) :
    Calls Try.prog 117 #[.slice (some ⟨g, 0, none⟩) 2 2] w fun e w' => e = .returned (.int .i64 (orZ x y)) ∧ ∃ x, w' = ext w x := by
  by_cases hx : x = 0
  · have HR : Hid (orZ x y = y) := Lib.hid (orZ_0 hx)
    have hx1 : (x == 0) = true := by simpa using hx
    have hx2 : (x != 0) = false := by simpa using hx
    clear hx
    by_cases hy : y = 0
    · have HY := Lib.hid hy
      have hy1 : (y == 0) = true := by simpa using hy
      have hy2 : (y != 0) = false := by simpa using hy
      clear hy
      go_enter Try.func117, Try.ntmps117
      go_wp2
      refine wp_loop_rounds 3 ?_
      rw [rounds_succ]
      go_wp2
      rw [rounds_succ]
      go_wp2
      rw [rounds_succ]
      go_wp2
      (go_ret; exact ⟨ret_int (by rw [HR.out, HY.out]), ext_of (by (try simp only [ext_ext]); repeat (first | exact Bel.refl _ | assumption | refine bel_and ?_ _ | refine bel_drews ?_ _ | refine Bel.ext ?_ _ | refine Bel.alloc ?_ _ | refine Bel.drewN ?_ _))⟩)
    · have hy1 : (y == 0) = false := by simpa using hy
      have hy2 : (y != 0) = true := by simpa using hy
      clear hy
      go_enter Try.func117, Try.ntmps117
      go_wp2
      refine wp_loop_rounds 3 ?_
      rw [rounds_succ]
      go_wp2
      rw [rounds_succ]
      go_wp2
      (go_ret; exact ⟨ret_int (by exact HR.out.symm), ext_of (by (try simp only [ext_ext]); repeat (first | exact Bel.refl _ | assumption | refine bel_and ?_ _ | refine bel_drews ?_ _ | refine Bel.ext ?_ _ | refine Bel.alloc ?_ _ | refine Bel.drewN ?_ _))⟩)
  · have HR : Hid (orZ x y = x) := Lib.hid (orZ_1 hx)
    have hx1 : (x == 0) = false := by simpa using hx
    have hx2 : (x != 0) = true := by simpa using hx
    clear hx
    go_enter Try.func117, Try.ntmps117
    go_wp2
    refine wp_loop_rounds 3 ?_
    rw [rounds_succ]
    go_wp2
    (go_ret; exact ⟨ret_int (by exact HR.out.symm), ext_of (by (try simp only [ext_ext]); repeat (first | exact Bel.refl _ | assumption | refine bel_and ?_ _ | refine bel_drews ?_ _ | refine Bel.ext ?_ _ | refine Bel.alloc ?_ _ | refine Bel.drewN ?_ _))⟩)
/-- numbers that course.compare takes: points in their ranges, a time of 64 bits -/
structure CmpIn (p q : Pt) (n d : Int) : Prop where
  pa : -1048576 ≤ p.a ∧ p.a ≤ 1048576
  pb : -1048576 ≤ p.b ∧ p.b ≤ 1048576
  qa : -1048576 ≤ q.a ∧ q.a ≤ 1048576
  qb : -1048576 ≤ q.b ∧ q.b ≤ 1048576
  n : -9223372036854775807 ≤ n ∧ n ≤ 9223372036854775807
  d : 1 ≤ d ∧ d ≤ 9223372036854775807
theorem mul_bd (a b A B : Int) (ha : -A ≤ a ∧ a ≤ A) (hb : -B ≤ b ∧ b ≤ B) : -(A * B) ≤ a * b ∧ a * b ≤ A * B := by
  have hA : 0 ≤ A := by omega
  have hB : 0 ≤ B := by omega
  have h1 : 0 ≤ (A - a) * (B + b) := Int.mul_nonneg (by omega) (by omega)
  have h2 : 0 ≤ (A + a) * (B - b) := Int.mul_nonneg (by omega) (by omega)
  have h3 : 0 ≤ (A - a) * (B - b) := Int.mul_nonneg (by omega) (by omega)
  have h4 : 0 ≤ (A + a) * (B + b) := Int.mul_nonneg (by omega) (by omega)
  simp only [Int.sub_mul, Int.add_mul, Int.mul_sub, Int.mul_add] at h1 h2 h3 h4
  omega
theorem far_bd {p q : Pt} {n d : Int} (h : CmpIn p q n d) : (-38685626227668133590597632 ≤ (p.a - q.a) * d ∧ (p.a - q.a) * d ≤ 38685626227668133590597632) ∧ (-38685626227668133590597632 ≤ (p.b - q.b) * n ∧ (p.b - q.b) * n ≤ 38685626227668133590597632) := by
  obtain ⟨h1, h2, h3, h4, h5, h6⟩ := h
  have k1 := mul_bd (p.a - q.a) d 2097152 9223372036854775807 (by omega) (by omega)
  have k2 := mul_bd (p.b - q.b) n 2097152 9223372036854775807 (by omega) (by omega)
  omega
theorem equal_wide (h l h' l' : Int) (w : World) : (Op.equalIn 10000 149 (.agg #[.int .i64 h, .int .u64 l]) (.agg #[.int .i64 h', .int .u64 l'])).run Try.prog w = .ok (decide (h = h' ∧ l = l')) w := by
  simp [go_sem]
  by_cases h1 : h = h' <;> by_cases h2 : l = l' <;> simp [h1, h2]
attribute [local go_sem ↓] equal_wide
set_option maxRecDepth 10000 in
set_option maxHeartbeats 2000000 in
theorem compare_any (p q : Pt) (n d : Int) (w : World) (h : CmpIn p q n d) :
    Calls Try.prog 95 #[.agg #[.int .i64 p.id, .int .i64 p.a, .int .i64 p.b], .agg #[.int .i64 q.id, .int .i64 q.a, .int .i64 q.b], .agg #[.int .i64 n, .int .i64 d]] w fun e w' => e = .returned (.int .i64 (cmpC p q n d)) ∧ ∃ x, w' = ext w x := by
  obtain ⟨k1, k2⟩ := far_bd h
  obtain ⟨h1, h2, h3, h4, h5, h6⟩ := h
  have hs := sum_any (p.a - q.a) d (p.b - q.b) n
  have hs' := fun w => hs w (by omega) (by omega) (by omega) (by omega) k1 k2
  obtain ⟨D, hD⟩ : ∃ D, farD p q n d = D := ⟨_, rfl⟩
  have hD' : (p.a - q.a) * d + (p.b - q.b) * n = D := hD
  rw [hD'] at hs'
  obtain ⟨hi, hhi⟩ : ∃ x, D / 18446744073709551616 = x := ⟨_, rfl⟩
  obtain ⟨lo, hlo⟩ : ∃ x, D % 18446744073709551616 = x := ⟨_, rfl⟩
  rw [hhi, hlo] at hs'
  have q1 := Lib.hid hs'
  have HD := Lib.hid hD
  obtain ⟨a1, a2⟩ := h1; obtain ⟨a3, a4⟩ := h2; obtain ⟨a5, a6⟩ := h3; obtain ⟨a7, a8⟩ := h4
  rcases (by omega : D < 0 ∨ 0 < D ∨ D = 0) with hd0 | hd0 | hd0
  · have hne : decide (hi = 0 ∧ lo = 0) = false := by rw [decide_eq_false_iff_not]; omega
    have hlt : hi < 0 := by omega
    have HR := Lib.hid (cmpC_lt (p := p) (q := q) (n := n) (d := d) (by omega))
    clear hs hs' hD hD' hhi hlo k1 k2 h5 h6 hd0
    go_enter Try.func95, Try.ntmps95
    go_wp2_with ((go_at_call 116; refine (q1.out _).mono ?_; rintro e _ ⟨rfl, nx, rfl⟩))
    (go_ret; exact ⟨ret_int (by exact HR.out.symm), ext_of (by (try simp only [ext_ext]); repeat (first | exact Bel.refl _ | assumption | refine bel_and ?_ _ | refine bel_drews ?_ _ | refine Bel.ext ?_ _ | refine Bel.alloc ?_ _ | refine Bel.drewN ?_ _))⟩)
  · have hne : decide (hi = 0 ∧ lo = 0) = false := by rw [decide_eq_false_iff_not]; omega
    have hlt : ¬ hi < 0 := by omega
    have HR := Lib.hid (cmpC_gt (p := p) (q := q) (n := n) (d := d) (by omega))
    clear hs hs' hD hD' hhi hlo k1 k2 h5 h6 hd0
    go_enter Try.func95, Try.ntmps95
    go_wp2_with ((go_at_call 116; refine (q1.out _).mono ?_; rintro e _ ⟨rfl, nx, rfl⟩))
    (go_ret; exact ⟨ret_int (by exact HR.out.symm), ext_of (by (try simp only [ext_ext]); repeat (first | exact Bel.refl _ | assumption | refine bel_and ?_ _ | refine bel_drews ?_ _ | refine Bel.ext ?_ _ | refine Bel.alloc ?_ _ | refine Bel.drewN ?_ _))⟩)
  · have hne : decide (hi = 0 ∧ lo = 0) = true := by rw [decide_eq_true_eq]; omega
    have HR : Hid (orZ (cmpZ p.b q.b) (cmpZ q.id p.id) = cmpC p q n d) := Lib.hid (by unfold cmpC; rw [if_neg (by omega), if_neg (by omega)]; rfl)
    clear hs hs' hD hD' hhi hlo k1 k2 h5 h6 hd0
    go_enter Try.func95, Try.ntmps95
    go_wp2_with ((go_at_call 116; refine (q1.out _).mono ?_; rintro e _ ⟨rfl, y1, rfl⟩))
    go_region_held3 (fun w' => w'.cell? ⟨w.heap.size, 0, none⟩ = some (.int .i64 p.id) ∧ w'.cell? ⟨w.heap.size, 1, none⟩ = some (.int .i64 p.a) ∧ w'.cell? ⟨w.heap.size, 2, none⟩ = some (.int .i64 p.b) ∧ w'.cell? ⟨w.heap.size + 1, 0, none⟩ = some (.int .i64 q.id) ∧ w'.cell? ⟨w.heap.size + 1, 1, none⟩ = some (.int .i64 q.a) ∧ w'.cell? ⟨w.heap.size + 1, 2, none⟩ = some (.int .i64 q.b)) (simp [go_sem]) ((first | (go_at_call 99; refine (cmpZ_any _ _ _).mono ?_; rintro e _ ⟨rfl, nx, rfl⟩) | (go_at_call 118; refine (cmpZ64_any _ _ _).mono ?_; rintro e _ ⟨rfl, nx, rfl⟩) | (go_at_call 117; refine (or2_any (cmpZ p.b q.b) (cmpZ q.id p.id) _ _ (by simp [go_sem]) (by simp [go_sem]) (by simp [go_sem])).mono ?_; rintro e _ ⟨rfl, nx, rfl⟩)))
    all_goals
      go_wp2
      (go_ret; exact ⟨ret_int (by exact HR.out), ext_of (by (try simp only [ext_ext]); repeat (first | exact Bel.refl _ | assumption | refine bel_and ?_ _ | refine bel_drews ?_ _ | refine Bel.ext ?_ _ | refine Bel.alloc ?_ _ | refine Bel.drewN ?_ _))⟩)
end Go.Proofs.Ytkcpnclgcmnlcaa

namespace Go.Proofs.Ytkcpnclgcmnlcaa
open Go.RowKit Go.Pel
theorem rchk_lit (n d v : Int) (h : ratioChk n d = v) (hn : -9223372036854775808 ≤ n ∧ n ≤ 9223372036854775807) (hd : -9223372036854775808 ≤ d ∧ d ≤ 9223372036854775807) (W : World) : Calls Try.prog 102 #[.agg #[.int .i64 n, .int .i64 d]] W fun e w' => e = .returned (.int .i64 v) ∧ ∃ y, w' = ext W y := by
  subst h; exact ratioCheck_any n d W hn hd
set_option maxRecDepth 10000 in
set_option maxHeartbeats 2000000 in
theorem two_any (p q : Pt) (n d : Int) (w : World) (hn : -9223372036854775808 ≤ n ∧ n ≤ 9223372036854775807) (hd : -9223372036854775808 ≤ d ∧ d ≤ 9223372036854775807) :
    Calls Try.prog 94 #[.agg #[.int .i64 p.id, .int .i64 p.a, .int .i64 p.b], .agg #[.int .i64 q.id, .int .i64 q.a, .int .i64 q.b], .agg #[.int .i64 n, .int .i64 d]] w fun e w' => e = .returned (.int .i64 (twoChk p q n d)) ∧ ∃ x, w' = ext w x := by
  rcases pt_cases p with h1 | h1 <;> rcases pt_cases q with h2 | h2 <;> rcases ratioChk_cases n d with h3 | h3
  · have q1 := Lib.hid (pchk_lit p _ h1); have q2 := Lib.hid (pchk_lit q _ h2); have q3 := Lib.hid (rchk_lit n d _ h3 hn hd)
    by_cases hi : p.id = q.id
    · have HR := Lib.hid (twoChk_same (p := p) (q := q) ⟨h1, h2, h3⟩ hi)
      have hi' : (p.id == q.id) = true := by simpa using hi
      clear h1 h2 h3 hn hd hi
      go_enter Try.func94, Try.ntmps94
      go_wp2
      ((first | refine RegC.wp_region_ext1 (by kernel_rfl) (by kernel_rfl) ?_ | refine RegC.wp_region_ext0 (by kernel_rfl) (by kernel_rfl) ?_); (repeat (any_goals (first | go_big_quiet_step (first | (go_at_call 67; with_reducible exact Calls.ext_of (q1.out _)) | (go_at_call 67; with_reducible exact Calls.ext_of (q2.out _)) | (go_at_call 102; with_reducible exact Calls.ext_of (q3.out _))) | (refine RegC.wpQuiet_split rfl rfl (fun hb => ?_) (fun hb => ?_) <;> simp only [hb])))); all_goals (refine wpQuiet_nil ?_; rintro _ ⟨nq, rfl⟩))
      go_wp2
      (go_ret; exact ⟨ret_int (by exact HR.out.symm), ext_of (by (try simp only [ext_ext]); repeat (first | exact Bel.refl _ | assumption | refine bel_and ?_ _ | refine bel_drews ?_ _ | refine Bel.ext ?_ _ | refine Bel.alloc ?_ _ | refine Bel.drewN ?_ _))⟩)
    · have HR := Lib.hid (twoChk_ok (p := p) (q := q) ⟨h1, h2, h3⟩ hi)
      have hi' : (p.id == q.id) = false := by simpa using hi
      clear h1 h2 h3 hn hd hi
      go_enter Try.func94, Try.ntmps94
      go_wp2
      ((first | refine RegC.wp_region_ext1 (by kernel_rfl) (by kernel_rfl) ?_ | refine RegC.wp_region_ext0 (by kernel_rfl) (by kernel_rfl) ?_); (repeat (any_goals (first | go_big_quiet_step (first | (go_at_call 67; with_reducible exact Calls.ext_of (q1.out _)) | (go_at_call 67; with_reducible exact Calls.ext_of (q2.out _)) | (go_at_call 102; with_reducible exact Calls.ext_of (q3.out _))) | (refine RegC.wpQuiet_split rfl rfl (fun hb => ?_) (fun hb => ?_) <;> simp only [hb])))); all_goals (refine wpQuiet_nil ?_; rintro _ ⟨nq, rfl⟩))
      go_wp2
      (go_ret; exact ⟨ret_int (by exact HR.out.symm), ext_of (by (try simp only [ext_ext]); repeat (first | exact Bel.refl _ | assumption | refine bel_and ?_ _ | refine bel_drews ?_ _ | refine Bel.ext ?_ _ | refine Bel.alloc ?_ _ | refine Bel.drewN ?_ _))⟩)
  all_goals
    have q1 := Lib.hid (pchk_lit p _ h1)
    have q2 := Lib.hid (pchk_lit q _ h2)
    have q3 := Lib.hid (rchk_lit n d _ h3 hn hd)
    have HR := Lib.hid (twoChk_bad (p := p) (q := q) (n := n) (d := d) (by rw [h1, h2, h3]; decide))
    clear h1 h2 h3 hn hd
    go_enter Try.func94, Try.ntmps94
    go_wp2
    ((first | refine RegC.wp_region_ext1 (by kernel_rfl) (by kernel_rfl) ?_ | refine RegC.wp_region_ext0 (by kernel_rfl) (by kernel_rfl) ?_); (repeat (any_goals (first | go_big_quiet_step (first | (go_at_call 67; with_reducible exact Calls.ext_of (q1.out _)) | (go_at_call 67; with_reducible exact Calls.ext_of (q2.out _)) | (go_at_call 102; with_reducible exact Calls.ext_of (q3.out _))) | (refine RegC.wpQuiet_split rfl rfl (fun hb => ?_) (fun hb => ?_) <;> simp only [hb])))); all_goals (refine wpQuiet_nil ?_; rintro _ ⟨nq, rfl⟩))
    go_wp2
    (go_ret; exact ⟨ret_int (by exact HR.out.symm), ext_of (by (try simp only [ext_ext]); repeat (first | exact Bel.refl _ | assumption | refine bel_and ?_ _ | refine bel_drews ?_ _ | refine Bel.ext ?_ _ | refine Bel.alloc ?_ _ | refine Bel.drewN ?_ _))⟩)
theorem cmpIn_of {p q : Pt} {n d : Int} (hp : p.chk = 0) (hq : q.chk = 0) (hr : ratioChk n d = 0) (hn : -9223372036854775808 ≤ n ∧ n ≤ 9223372036854775807) (hd : -9223372036854775808 ≤ d ∧ d ≤ 9223372036854775807) : CmpIn p q n d := by
  have h1 := chk_pt hp
  have h2 := chk_pt hq
  have h3 := ratioChk_zero hr
  exact ⟨by omega, by omega, by omega, by omega, by omega, by omega⟩
set_option maxRecDepth 10000 in
set_option maxHeartbeats 2000000 in
theorem ahead_any (p q : Pt) (n d : Int) (w : World) (hn : -9223372036854775808 ≤ n ∧ n ≤ 9223372036854775807) (hd : -9223372036854775808 ≤ d ∧ d ≤ 9223372036854775807) :
    Calls Try.prog 58 #[.agg #[.int .i64 p.id, .int .i64 p.a, .int .i64 p.b], .agg #[.int .i64 q.id, .int .i64 q.a, .int .i64 q.b], .agg #[.int .i64 n, .int .i64 d]] w fun e w' => e = .returned (.tuple #[.bool (aheadV p q n d).1, .int .i64 (aheadV p q n d).2]) ∧ ∃ x, w' = ext w x := by
  have q1 := Lib.hid (fun W => two_any p q n d W hn hd)
  by_cases h : twoChk p q n d = 0
  · have HV : Hid (aheadV p q n d = (leads p q n d, 0)) := Lib.hid (by unfold aheadV; rw [if_pos h])
    obtain ⟨h1, h2, h3, _⟩ := twoChk_zero h
    have q2 := Lib.hid (fun W => compare_any p q n d W (cmpIn_of h1 h2 h3 hn hd))
    rw [h] at q1
    have HL := Lib.hid (cmpC_leads p q n d)
    obtain ⟨C, hC⟩ : ∃ C, cmpC p q n d = C := ⟨_, rfl⟩
    rw [hC] at q2 HL
    clear h h1 h2 h3 hn hd hC
    go_enter Try.func58, Try.ntmps58
    go_wp2_with (first | (go_at_call 94; refine (q1.out _).mono ?_; rintro e _ ⟨rfl, nx, rfl⟩) | (go_at_call 95; refine (q2.out _).mono ?_; rintro e _ ⟨rfl, nx, rfl⟩))
    go_ret2
    exact ⟨by rw [HV.out, ← HL.out]; rfl, ext_of (by (try simp only [ext_ext]); repeat (first | exact Bel.refl _ | assumption | refine bel_and ?_ _ | refine bel_drews ?_ _ | refine Bel.ext ?_ _ | refine Bel.alloc ?_ _ | refine Bel.drewN ?_ _))⟩
  · have HV : Hid (aheadV p q n d = (false, twoChk p q n d)) := Lib.hid (by unfold aheadV; rw [if_neg h])
    have hz : (twoChk p q n d == 0) = false := by simpa using h
    have hz' : (twoChk p q n d != 0) = true := by simpa using h
    clear h hn hd
    go_enter Try.func58, Try.ntmps58
    go_wp2_with ((go_at_call 94; refine (q1.out _).mono ?_; rintro e _ ⟨rfl, nx, rfl⟩))
    go_ret2
    exact ⟨by rw [HV.out]; rfl, ext_of (by (try simp only [ext_ext]); repeat (first | exact Bel.refl _ | assumption | refine bel_and ?_ _ | refine bel_drews ?_ _ | refine Bel.ext ?_ _ | refine Bel.alloc ?_ _ | refine Bel.drewN ?_ _))⟩
end Go.Proofs.Ytkcpnclgcmnlcaa

namespace Go.Pel
open Go.Sort Go.Proofs
def worth (p : Pt) (n d : Int) : Int := p.a * d + p.b * n
theorem farD_worth (p q : Pt) (n d : Int) : farD p q n d = worth p n d - worth q n d := by
  unfold farD worth; rw [Int.sub_mul, Int.sub_mul]; omega
theorem leads_iff (p q : Pt) (n d : Int) : leads p q n d = true ↔ worth q n d < worth p n d ∨ (worth q n d = worth p n d ∧ (q.b < p.b ∨ (q.b = p.b ∧ p.id < q.id))) := by
  unfold leads
  rw [farD_worth]
  by_cases h : worth p n d - worth q n d ≠ 0
  · rw [if_pos h]; simp; omega
  · rw [if_neg h]
    by_cases h2 : p.b ≠ q.b
    · rw [if_pos h2]; simp; omega
    · rw [if_neg h2]; simp; omega
def cfP (n d : Int) (p q : Pt) : Int := if p.id = q.id then 0 else if leads p q n d then -1 else 1
theorem ltOf_cfP (n d : Int) (p q : Pt) : ltOf (cfP n d) p q = true ↔ p.id ≠ q.id ∧ leads p q n d = true := by
  unfold ltOf cfP
  by_cases h : p.id = q.id
  · rw [if_pos h]; simp [h]
  · rw [if_neg h]
    by_cases h2 : leads p q n d = true
    · rw [if_pos h2]; simp [h, h2]
    · rw [if_neg h2]; simp [h2]
/-- the comparator at the points of a list whose ids are apart -/
def cfL (n d : Int) (l : List Pt) (x y : {p : Pt // p ∈ l}) : Int := cfP n d x.1 y.1
theorem ltOf_cfL (n d : Int) (l : List Pt) (x y : {p : Pt // p ∈ l}) : ltOf (cfL n d l) x y = true ↔ x.1.id ≠ y.1.id ∧ leads x.1 y.1 n d = true := ltOf_cfP n d x.1 y.1
def IdsApart (l : List Pt) : Prop := ∀ p ∈ l, ∀ q ∈ l, p.id = q.id → p = q
theorem nlt {n d : Int} {p q : Pt} (h : leads p q n d = false) : ¬ (worth q n d < worth p n d ∨ (worth q n d = worth p n d ∧ (q.b < p.b ∨ (q.b = p.b ∧ p.id < q.id)))) := by
  rw [← leads_iff, h]; decide
theorem swo_cfL {n d : Int} {l : List Pt} (hi : IdsApart l) : SWO (ltOf (cfL n d l)) := by
  have F : ∀ x y, ltOf (cfL n d l) x y = false ↔ (x = y ∨ (x.1.id ≠ y.1.id ∧ leads x.1 y.1 n d = false)) := by
    intro x y
    rw [← Bool.not_eq_true, ltOf_cfL]
    constructor
    · intro h
      by_cases he : x.1.id = y.1.id
      · exact .inl (Subtype.ext (hi _ x.2 _ y.2 he))
      · exact .inr ⟨he, by simpa [he] using h⟩
    · rintro (rfl | ⟨h1, h2⟩)
      · simp
      · simp [h2]
  constructor
  · intro x; exact (F x x).2 (.inl rfl)
  · intro x y z h1 h2
    rw [ltOf_cfL, leads_iff] at h1 h2 ⊢
    refine ⟨?_, by omega⟩
    intro h
    obtain rfl : x = z := Subtype.ext (hi _ x.2 _ z.2 h)
    omega
  · intro x y z h1 h2
    rw [F] at h1 h2 ⊢
    rcases h1 with rfl | ⟨h1, k1⟩
    · exact h2
    rcases h2 with rfl | ⟨h2, k2⟩
    · exact .inr ⟨h1, k1⟩
    have k1 := nlt k1
    have k2 := nlt k2
    by_cases hne : x.1.id = z.1.id
    · exact .inl (Subtype.ext (hi _ x.2 _ z.2 hne))
    refine .inr ⟨hne, ?_⟩
    rw [← Bool.not_eq_true, leads_iff]
    omega
theorem tot_cfL {n d : Int} {l : List Pt} (hi : IdsApart l) (x y : {p : Pt // p ∈ l}) (h1 : ltOf (cfL n d l) x y = false) (h2 : ltOf (cfL n d l) y x = false) : x = y := by
  rw [← Bool.not_eq_true, ltOf_cfL] at h1 h2
  by_cases he : x.1.id = y.1.id
  · exact Subtype.ext (hi _ x.2 _ y.2 he)
  · exfalso
    have h1' : leads x.1 y.1 n d = false := by simpa [he] using h1
    have h2' : leads y.1 x.1 n d = false := by simpa [Ne.symm he] using h2
    have := nlt h1'
    have := nlt h2'
    omega
/-- the list sorted by who leads -/
def sortP (n d : Int) (l : List Pt) : List Pt := ((l.attach.mergeSort fun x y => !(ltOf (cfL n d l)) y x)).map Subtype.val
theorem sortP_perm (n d : Int) (l : List Pt) : (sortP n d l).Perm l := by
  unfold sortP
  have := (List.mergeSort_perm l.attach (fun x y => !(ltOf (cfL n d l)) y x)).map Subtype.val
  simpa [List.attach_map_subtype_val] using this
theorem sortP_length (n d : Int) (l : List Pt) : (sortP n d l).length = l.length := (sortP_perm n d l).length_eq
theorem sortP_pairwise {n d : Int} {l : List Pt} (hi : IdsApart l) (hn : (l.map Pt.id).Nodup) : (sortP n d l).Pairwise fun p q => leads p q n d = true := by
  have hO := swo_cfL (n := n) (d := d) hi
  have h1 : (l.attach.mergeSort fun x y => !(ltOf (cfL n d l)) y x).Pairwise fun x y => (!(ltOf (cfL n d l)) y x) = true := by
    apply List.pairwise_mergeSort
    · intro a b c h1 h2
      simp only [Bool.not_eq_true', ] at h1 h2 ⊢
      exact hO.ntrans _ _ _ h2 h1
    · intro a b
      simp only [Bool.or_eq_true, Bool.not_eq_true']
      by_cases h : ltOf (cfL n d l) b a = true
      · right
        rcases hq : ltOf (cfL n d l) a b with _ | _
        · rfl
        · have := hO.trans _ _ _ h hq; rw [hO.irrefl] at this; exact absurd this (by decide)
      · left; simpa using h
  have h2 : (sortP n d l).Pairwise fun p q => p.id ≠ q.id := by
    have := ((sortP_perm n d l).map Pt.id).nodup_iff.2 hn
    exact List.pairwise_map.1 this
  have h3 : (sortP n d l).Pairwise fun p q => ¬ (q.id ≠ p.id ∧ leads q p n d = true) := by
    unfold sortP
    rw [List.pairwise_map]
    refine h1.imp ?_
    intro a b h
    rw [← ltOf_cfL]
    simpa using h
  refine (h2.and h3).imp ?_
  rintro p q ⟨h, h'⟩
  have h4 : leads q p n d = false := by simpa [Ne.symm h] using h'
  have := nlt h4
  rw [leads_iff]
  omega
end Go.Pel

namespace Go.Proofs
open Go.Shelf
def Try.laysSort_ren : Go.Shelf.Ren := ⟨fun | 6 => 113 | 15 => 126 | 14 => 125 | 28 => 140 | 29 => 141 | 20 => 132 | 21 => 133 | 22 => 134 | 23 => 135 | 24 => 136 | 25 => 137 | 26 => 138 | 27 => 139 | 46 => 145 | 47 => 146 | 48 => 147 | 49 => 148 | 50 => 149 | 57 => 153 | n => n, fun | 22 => 22 | 24 => 26 | 25 => 146 | 3 => 3 | 39 => 155 | 0 => 0 | 53 => 171 | 55 => 142 | 4 => 4 | 46 => 165 | 45 => 164 | 50 => 104 | 5 => 5 | 9 => 9 | 66 => 178 | 70 => 182 | 76 => 186 | 77 => 65 | n => n, fun | n => n⟩
theorem Try.laysSort : Go.Proofs.SlLaysF0.n6 Try.prog Try.laysSort_ren := {
  mixed := by kernel_rfl
  f6 := ⟨Try.f113.name, by decide, Try.func113.trans (congrArg some (by kernel_rfl))⟩
  f14 := ⟨Try.f125.name, by decide, Try.func125.trans (congrArg some (by kernel_rfl))⟩
  f15 := Try.func126.trans (congrArg some (by kernel_rfl))
  f20 := ⟨Try.f132.name, by decide, Try.func132.trans (congrArg some (by kernel_rfl))⟩
  f21 := ⟨Try.f133.name, by decide, Try.func133.trans (congrArg some (by kernel_rfl))⟩
  f22 := ⟨Try.f134.name, by decide, Try.func134.trans (congrArg some (by kernel_rfl))⟩
  f23 := ⟨Try.f135.name, by decide, Try.func135.trans (congrArg some (by kernel_rfl))⟩
  f24 := ⟨Try.f136.name, by decide, Try.func136.trans (congrArg some (by kernel_rfl))⟩
  f25 := ⟨Try.f137.name, by decide, Try.func137.trans (congrArg some (by kernel_rfl))⟩
  f26 := ⟨Try.f138.name, by decide, Try.func138.trans (congrArg some (by kernel_rfl))⟩
  f27 := ⟨Try.f139.name, by decide, Try.func139.trans (congrArg some (by kernel_rfl))⟩
  f28 := Try.func140.trans (congrArg some (by kernel_rfl))
  f29 := Try.func141.trans (congrArg some (by kernel_rfl))
  f46 := ⟨Try.f145.name, by decide, Try.func145.trans (congrArg some (by kernel_rfl))⟩
  f47 := Try.func146.trans (congrArg some (by kernel_rfl))
  f48 := Try.func147.trans (congrArg some (by kernel_rfl))
  f49 := ⟨Try.f148.name, by decide, Try.func148.trans (congrArg some (by kernel_rfl))⟩
  f50 := ⟨Try.f149.name, by decide, Try.func149.trans (congrArg some (by kernel_rfl))⟩
  f57 := ⟨Try.f153.name, by decide, Try.func153.trans (congrArg some (by kernel_rfl))⟩
  t0 := Try.underlying0
  a0 := Try.isAgg0
  z0 := Try.sizeOf0
  v0 := Try.zeroValue0
  t3 := Try.underlying3
  a3 := Try.isAgg3
  z3 := Try.sizeOf3
  v3 := Try.zeroValue3
  t4 := Try.underlying4
  a4 := Try.isAgg4
  z4 := Try.sizeOf4
  v4 := Try.zeroValue4
  t5 := Try.underlying5
  a5 := Try.isAgg5
  z5 := Try.sizeOf5
  v5 := Try.zeroValue5
  t9 := Try.underlying9
  a9 := Try.isAgg9
  z9 := Try.sizeOf9
  v9 := Try.zeroValue9
  t22 := Try.underlying22
  a22 := Try.isAgg22
  z22 := Try.sizeOf22
  v22 := Try.zeroValue22
  t25 := Try.underlying146
  a25 := Try.isAgg146
  z25 := Try.sizeOf146
  v25 := Try.zeroValue146
  t39 := Try.underlying155
  a39 := Try.isAgg155
  z39 := Try.sizeOf155
  v39 := Try.zeroValue155
  t45 := Try.underlying164
  a45 := Try.isAgg164
  z45 := Try.sizeOf164
  v45 := Try.zeroValue164
  t46 := Try.underlying165
  a46 := Try.isAgg165
  z46 := Try.sizeOf165
  v46 := Try.zeroValue165
  t50 := Try.underlying104
  a50 := Try.isAgg104
  z50 := Try.sizeOf104
  v50 := Try.zeroValue104
  t53 := Try.underlying171
  a53 := Try.isAgg171
  z53 := Try.sizeOf171
  v53 := Try.zeroValue171
  t55 := Try.underlying142
  a55 := Try.isAgg142
  z55 := Try.sizeOf142
  v55 := Try.zeroValue142
  t66 := Try.underlying178
  a66 := Try.isAgg178
  z66 := Try.sizeOf178
  v66 := Try.zeroValue178
  t70 := Try.underlying182
  a70 := Try.isAgg182
  z70 := Try.sizeOf182
  v70 := Try.zeroValue182
  t76 := Try.underlying186
  a76 := Try.isAgg186
  z76 := Try.sizeOf186
  v76 := Try.zeroValue186
  t77 := Try.underlying65
  a77 := Try.isAgg65
  z77 := Try.sizeOf65
  v77 := Try.zeroValue65 }
end Go.Proofs

namespace Go.Proofs.Ytkcpnclgcmnlcaa
open Go.RowKit Go.Pel
set_option maxRecDepth 10000 in
set_option maxHeartbeats 2000000 in
theorem sorted1_any (p q : Pt) (n d : Int) (rb : Nat) (w : World) (hn : -9223372036854775808 ≤ n ∧ n ≤ 9223372036854775807) (hd : -9223372036854775808 ≤ d ∧ d ≤ 9223372036854775807) (r0 : Held w rb 0 (.int .i64 n)) (r1 : Held w rb 1 (.int .i64 d)) (ht : p.id ≠ q.id → twoChk p q n d = 0) :
    Calls Try.prog 114 #[.agg #[.int .i64 p.id, .int .i64 p.a, .int .i64 p.b], .agg #[.int .i64 q.id, .int .i64 q.a, .int .i64 q.b], .pointer (some ⟨rb, 0, none⟩)] w fun e w' => e = .returned (.int .i64 (cfP n d p q)) ∧ ∃ x, w' = ext w x := by
  have hb := r0.lt
  have c0 := r0.eq
  have c1 := r1.eq
  have q1 := Lib.hid (fun W => ahead_any p q n d W hn hd)
  clear hn hd r0 r1
  by_cases h : p.id = q.id
  · have HV := Lib.hid (show (0 : Int) = cfP n d p q from (if_pos h).symm)
    clear ht q1
    go_enter Try.func114, Try.ntmps114
    go_wp2
    (go_ret; exact ⟨ret_int (by exact HV.out), ext_of (by (try simp only [ext_ext]); repeat (first | exact Bel.refl _ | assumption | refine bel_and ?_ _ | refine bel_drews ?_ _ | refine Bel.ext ?_ _ | refine Bel.alloc ?_ _ | refine Bel.drewN ?_ _))⟩)
  · have HA : aheadV p q n d = (leads p q n d, 0) := if_pos (ht h)
    rw [HA] at q1
    clear ht HA
    rcases hL : leads p q n d with _ | _
    · have HV := Lib.hid (show (1 : Int) = cfP n d p q by unfold cfP; rw [if_neg h, hL]; rfl)
      rw [hL] at q1
      clear hL
      go_enter Try.func114, Try.ntmps114
      go_wp2_with ((go_at_call 58; (with_reducible refine (q1.out _).mono ?_); rintro e _ ⟨rfl, nx, rfl⟩))
      (go_ret; exact ⟨ret_int (by exact HV.out), ext_of (by (try simp only [ext_ext]); repeat (first | exact Bel.refl _ | assumption | refine bel_and ?_ _ | refine bel_drews ?_ _ | refine Bel.ext ?_ _ | refine Bel.alloc ?_ _ | refine Bel.drewN ?_ _))⟩)
    · have HV := Lib.hid (show (-1 : Int) = cfP n d p q by unfold cfP; rw [if_neg h, hL]; rfl)
      rw [hL] at q1
      clear hL
      go_enter Try.func114, Try.ntmps114
      go_wp2_with ((go_at_call 58; (with_reducible refine (q1.out _).mono ?_); rintro e _ ⟨rfl, nx, rfl⟩))
      (go_ret; exact ⟨ret_int (by exact HV.out), ext_of (by (try simp only [ext_ext]); repeat (first | exact Bel.refl _ | assumption | refine bel_and ?_ _ | refine bel_drews ?_ _ | refine Bel.ext ?_ _ | refine Bel.alloc ?_ _ | refine Bel.drewN ?_ _))⟩)
end Go.Proofs.Ytkcpnclgcmnlcaa

namespace Go
open RowKit Go.Sort Go.Proofs Go.Shelf
theorem flatK_list {α : Type} [Inhabited α] (enc : α → List Value) (k : Nat) (hk : ∀ x, (enc x).length = k) : ∀ (l : List α), (flatK enc k l.toArray).toList = l.flatMap enc := by
  intro l
  have key : ∀ (l : List α) (t : Nat), t < l.length * k → (l.flatMap enc)[t]? = some ((enc l[t / k]!)[t % k]!) := by
    intro l
    induction l with
    | nil => intro t ht; simp at ht
    | cons a r ih =>
      intro t ht
      have k0 : 0 < k := by
        rcases Nat.eq_zero_or_pos k with h | h
        · subst h; simp at ht
        · exact h
      rw [List.flatMap_cons]
      by_cases hlt : t < k
      · rw [List.getElem?_append_left (by rw [hk]; exact hlt), Nat.div_eq_of_lt hlt, Nat.mod_eq_of_lt hlt]
        have : t < (enc a).length := by rw [hk]; exact hlt
        simp [this]
      · rw [List.getElem?_append_right (by rw [hk]; omega), hk]
        have h2 : t - k < r.length * k := by
          rw [List.length_cons, Nat.add_mul, Nat.one_mul] at ht; omega
        rw [ih (t - k) h2]
        have e1 : t / k = (t - k) / k + 1 := by
          have := Nat.div_eq_sub_div k0 (by omega : k ≤ t)
          omega
        have e2 : t % k = (t - k) % k := Nat.mod_eq_sub_mod (by omega)
        rw [e1, e2]
        simp
  have hlen : (l.flatMap enc).length = l.length * k := by
    induction l with
    | nil => simp
    | cons a r ih => rw [List.flatMap_cons, List.length_append, ih, hk, List.length_cons, Nat.add_mul, Nat.one_mul]; omega
  apply List.ext_getElem?
  intro t
  by_cases ht : t < l.length * k
  · rw [key l t ht]
    simp [flatK, ht]
  · rw [List.getElem?_eq_none (by simp [flatK]; omega), List.getElem?_eq_none (by rw [hlen]; omega)]
theorem row_put {w : World} {base g cap size : Nat} {e : TypeId} {cur : List Value} (h : Row w base e size g cap cur) (q : Nat) (F : Array Value) (hF : F.size ≤ cur.length) : Row (putRow id (Sort.ahead w q) g 0 F) base e size g cap (F.toList ++ cur.drop F.size) := by
  refine ⟨h.1, ?_, h.2.2.1, ?_⟩
  · have : putCells id 0 F cur.toArray = (F.toList ++ cur.drop F.size).toArray := by
      apply Array.ext_getElem?
      intro k
      simp only [putCells, Array.getElem?_mapIdx, List.getElem?_toArray]
      by_cases hk : k < F.size
      · rw [List.getElem?_append_left (by simpa using hk)]
        have : k < cur.length := by omega
        simp [this, hk]
      · rw [List.getElem?_append_right (by simpa using hk)]
        simp [hk, show F.size + (k - F.size) = k by omega]
    unfold putRow mapBlock Sort.ahead
    simp [Array.getElem?_modify, h.2.1, onCells, this]
  · rw [List.length_append, List.length_drop, ← h.len]; simp; omega
theorem apart_put (g : Nat) (w : World) (q off : Nat) (F : Array Value) : Apart g w (putRow id (Sort.ahead w q) g off F) :=
  ⟨rfl, rfl, rfl, by simp [putRow, mapBlock, Sort.ahead], by simp [putRow, mapBlock, Sort.ahead], fun b hb => by simp [putRow, mapBlock, Sort.ahead, Array.getElem?_modify, Ne.symm hb]⟩
theorem bel_grow (w : World) (os : Array Obj) : Bel w (grow w os) :=
  ⟨⟨rfl, rfl, rfl, by simp [grow], fun k hk => by simp only [grow]; rw [Array.getElem?_append_left hk]⟩, Nat.le_refl _⟩
theorem ext_grow (w : World) (x : Beyond) : ext w x = grow (w.drewN x.drawn) x.objs := by
  unfold ext grow World.drewN; rfl
end Go
namespace Go.Proofs.Ytkcpnclgcmnlcaa
open Go.RowKit Go.Pel Go.Sort Go.Shelf
def encL (l : List Pt) (x : {p : Pt // p ∈ l}) : List Value := x.1.cells
theorem flat_attach (l : List Pt) (m : List {p : Pt // p ∈ l}) : m.flatMap (encL l) = vp (m.map Subtype.val) := by
  unfold vp encL; rw [List.flatMap_map]
set_option maxRecDepth 10000 in
set_option maxHeartbeats 1000000 in
theorem sortFunc_any (A : Option Addr) (c : Nat) (l : List Pt) (n d : Int) (rb B : Nat) (wB w : World) (hs : Own w B 26 3 A l.length c (vp l)) (hb : Bel wB w) (hB : wB.heap.size ≤ B) (hrb : rb < B)
    (r0 : Held w rb 0 (.int .i64 n)) (r1 : Held w rb 1 (.int .i64 d)) (hn : -9223372036854775808 ≤ n ∧ n ≤ 9223372036854775807) (hd : -9223372036854775808 ≤ d ∧ d ≤ 9223372036854775807) (hl : l.length ≤ 1000000) (hi : IdsApart l) (ht : ∀ p ∈ l, ∀ q ∈ l, p.id ≠ q.id → twoChk p q n d = 0) :
    Calls Try.prog 113 #[.slice A l.length c, .func (.func 114) #[] #[.pointer (some ⟨rb, 0, none⟩)]] w fun e w' => e = .returned (.tuple #[]) ∧ ∃ y, w' = ext wB y ∧ Own (ext wB y) B 26 3 A l.length c (vp (sortP n d l)) := by
  by_cases h0 : l = []
  · subst h0
    have hcon := AnyF.slices_SortFunc_none Try.laysSort A c (.func (.func 114) #[] #[.pointer (some ⟨rb, 0, none⟩)]) w
    refine Calls.mono hcon ?_
    rintro e w' ⟨rfl, rfl⟩
    refine ⟨rfl, own_exists hb ?_ (Bel.refl _)⟩
    have e0 : sortP n d [] = [] := List.eq_nil_of_length_eq_zero (sortP_length n d [])
    rw [e0]; exact hs
  · rcases hs.row with ⟨rfl, hn, _⟩ | ⟨g, cur, rfl, hr, hnc, hcur⟩
    · exact absurd (List.eq_nil_of_length_eq_zero hn) h0
    have hg := hr.1
    haveI : Inhabited {p : Pt // p ∈ l} := ⟨⟨l.head h0, List.head_mem h0⟩⟩
    have hcl : (vp l).length ≤ cur.length := by rw [← hcur, List.length_take]; omega
    have eg : ∀ args w, (callFunc 114 args).run Try.prog w = .ok (.enter 114 args) w := enters_of Try.func114 (by kernel_rfl) rfl
    have hk : ∀ x, (encL l x).length = 3 := fun _ => rfl
    have hflat : ∀ m : List {p : Pt // p ∈ l}, (flatK (encL l) 3 m.toArray).toList = vp (m.map Subtype.val) := fun m => by rw [flatK_list _ _ hk, flat_attach]
    have hcmp : CmpLays Try.prog 114 #[.pointer (some ⟨rb, 0, none⟩)] (encL l) 3 (cfL n d l) g 0 l.attach.toArray.size w := by
      intro m os dk _ x y
      have hap : Apart g w (putRowK (encL l) 3 (Sort.ahead w m) g 0 dk) := apart_put g w m 0 _
      have hbg : Bel (putRowK (encL l) 3 (Sort.ahead w m) g 0 dk) (sortWorldK (encL l) 3 w g 0 m dk os) := bel_grow _ os
      have h := sorted1_any x.1 y.1 n d rb (sortWorldK (encL l) 3 w g 0 m dk os) hn hd ((r0.apart hap (by omega)).bel hbg) ((r1.apart hap (by omega)).bel hbg) (ht _ x.2 _ y.2)
      refine Calls.mono h ?_
      rintro e w' ⟨rfl, z, rfl⟩
      exact ⟨rfl, z.drawn, z.objs, ext_grow _ z⟩
    have hfl : (flatK (encL l) 3 l.attach.toArray) = (vp l).toArray := by
      apply Array.toList_inj.1
      rw [hflat, List.attach_map_subtype_val]
    have hH : HoldsK (encL l) 3 w g 0 l.attach.toArray := by
      unfold HoldsK
      rw [hfl]
      intro j hj
      have hj' : j < (vp l).length := by simpa using hj
      refine ⟨?_, hr.frozen _⟩
      rw [Nat.zero_add]
      refine hr.cell ?_
      have : cur[j]? = (vp l)[j]? := by
        rw [← hcur, List.getElem?_take, if_pos]
        rw [vp_len] at hj'; exact hj'
      rw [this]
      simp [hj']
    have hcon := AnyQ.slices_SortFunc_total Try.laysSort 3 Try.isAgg26 Try.sizeOf26 (encL l) hk (fun x v hv => pt_one x.1 v hv) (cfL n d l) (swo_cfL hi) 114 #[.pointer (some ⟨rb, 0, none⟩)] g 0 c l.attach.toArray w eg hcmp hH hr.lt (by simp; omega) (fun x y h1 h2 => tot_cfL hi x y h1 h2)
    have hsz : l.attach.toArray.size = l.length := by simp
    rw [hsz] at hcon
    refine Calls.mono hcon ?_
    rintro e w' ⟨rfl, m, os, rfl⟩
    refine ⟨rfl, ?_⟩
    have hF : flatK (encL l) 3 (l.attach.mergeSort fun x y => !(ltOf (cfL n d l)) y x).toArray = (vp (sortP n d l)).toArray := by
      apply Array.toList_inj.1
      rw [hflat]; rfl
    have hlen : (vp (sortP n d l)).length = l.length * 3 := by rw [vp_len, sortP_length]
    have hrow := row_put hr m (vp (sortP n d l)).toArray (by rw [vp_len] at hcl; simp; omega)
    have hap : Apart g w (putRow id (Sort.ahead w m) g 0 (vp (sortP n d l)).toArray) := apart_put g w m 0 _
    have hown := hrow.own hnc
    have htk : List.take (l.length * 3) ((vp (sortP n d l)).toArray.toList ++ List.drop (vp (sortP n d l)).toArray.size cur) = vp (sortP n d l) := by
      simp only [List.size_toArray]
      rw [List.take_append_of_le_length (by omega), ← hlen, List.take_length]
    rw [htk] at hown
    unfold sortWorldK putRowK
    show ∃ y, grow (putRow id (Sort.ahead w m) g 0 (flatK (encL l) 3 (l.attach.mergeSort fun x y => !(ltOf (cfL n d l)) y x).toArray)) os = ext wB y ∧ _
    rw [hF]
    exact own_exists ((hap.bel hb (by omega)).trans (bel_grow _ os)) hown (bel_grow _ os)
end Go.Proofs.Ytkcpnclgcmnlcaa

namespace Go.Pel
def fieldSorted (l : List Pt) (n d : Int) : List Pt × Int := if fieldChk l ≠ 0 then ([], fieldChk l) else if ratioChk n d ≠ 0 then ([], ratioChk n d) else (sortP n d l, 0)
theorem idsApart_inc {l : List Pt} (h : incB l = true) : IdsApart l := by
  intro p hp q hq he
  obtain ⟨i, hi⟩ := List.mem_iff_getElem?.1 hp
  obtain ⟨j, hj⟩ := List.mem_iff_getElem?.1 hq
  rcases (by omega : i < j ∨ j < i ∨ i = j) with k | k | k
  · have := inc_lt h k hi hj; omega
  · have := inc_lt h k hj hi; omega
  · subst k; rw [hi] at hj; exact Option.some.inj hj
end Go.Pel
namespace Go.Proofs.Ytkcpnclgcmnlcaa
open Go.RowKit Go.Pel
set_option maxRecDepth 10000 in
set_option maxHeartbeats 2000000 in
theorem sorted_any (A : Option Addr) (c : Nat) (l : List Pt) (n d : Int) (w : World) (hn : -9223372036854775808 ≤ n ∧ n ≤ 9223372036854775807) (hd : -9223372036854775808 ≤ d ∧ d ≤ 9223372036854775807) (hs : Sl w 3 A l.length c (vp l)) (hn0 : A = none → c = 0) :
    Calls Try.prog 90 #[.agg #[.slice A l.length c], .agg #[.int .i64 n, .int .i64 d]] w fun e w' => ∃ A' c', e = .returned (.tuple #[.slice A' (fieldSorted l n d).1.length c', .int .i64 (fieldSorted l n d).2]) ∧ ∃ x, w' = ext w x ∧ Own (ext w x) w.heap.size 26 3 A' (fieldSorted l n d).1.length c' (vp (fieldSorted l n d).1) := by
  have q := Lib.hid (fun W hb => fieldCheck_any A c l W (hs.bel (w' := W) hb))
  have q2 := Lib.hid (fun W => ratioCheck_any n d W hn hd)
  by_cases h : fieldChk l = 0
  · rw [h] at q
    obtain ⟨h64, hchk, hinc⟩ := fieldChk_zero h
    by_cases h2 : ratioChk n d = 0
    · rw [h2] at q2
      have HF : Hid (fieldSorted l n d = (sortP n d l, 0)) := Lib.hid (by unfold fieldSorted; rw [if_neg (by simpa using h), if_neg (by simpa using h2)])
      have q3 := Lib.hid (fun W hb => clone_any A c l W (hs.bel (w' := W) hb) hn0 (by omega))
      have hia := idsApart_inc hinc
      have hap : ∀ p ∈ l, ∀ q ∈ l, p.id ≠ q.id → twoChk p q n d = 0 := fun p hp q hq hne => twoChk_ok ⟨hchk p hp, hchk q hq, h2⟩ hne
      have q4 := Lib.hid (fun (A2 : Option Addr) (c2 rb B : Nat) (W : World) (hs2 : Own W B 26 3 A2 l.length c2 (vp l)) (hb : Bel w W) (hB : w.heap.size ≤ B) (hrb : rb < B) (r0 : Held W rb 0 (.int .i64 n)) (r1 : Held W rb 1 (.int .i64 d)) => sortFunc_any A2 c2 l n d rb B w W hs2 hb hB hrb r0 r1 hn hd (by omega) hia hap)
      rw [HF.out]
      clear h h2 h64 hchk hinc hia hap hn hd HF
      have HL := Lib.hid (sortP_length n d l)
      go_enter Try.func90, Try.ntmps90
      go_wp2_with (first | (go_at_call 25; refine (q.out _ (by (try simp only [ext_ext]); repeat (first | exact Bel.refl _ | assumption | refine bel_and ?_ _ | refine bel_drews ?_ _ | refine Bel.ext ?_ _ | refine Bel.alloc ?_ _ | refine Bel.drewN ?_ _))).mono ?_; rintro e _ ⟨rfl, nx, rfl⟩) | (go_at_call 102; refine (q2.out _).mono ?_; rintro e _ ⟨rfl, nx, rfl⟩))
      refine (q3.out _ (by (try simp only [ext_ext]); repeat (first | exact Bel.refl _ | assumption | refine bel_and ?_ _ | refine bel_drews ?_ _ | refine Bel.ext ?_ _ | refine Bel.alloc ?_ _ | refine Bel.drewN ?_ _))).mono ?_
      rintro e _ ⟨A2, c2, rfl, x2, rfl, own2⟩
      simp only [ext_ext] at own2 ⊢
      have own3 := own2.base_le (base' := w.heap.size + 2) (by simp [go_sem])
      clear own2
      generalize hZ : ((_ : Beyond).and _).and x2 = Z at own3 ⊢
      obtain ⟨W2, hW2⟩ : ∃ W2, ext ((w.alloc (.cells #[.slice A l.length c] 24)).alloc (.cells #[.int .i64 n, .int .i64 d] 49)) Z = W2 := ⟨_, rfl⟩
      rw [hW2] at own3 ⊢
      have hb2 : Bel w W2 := by rw [← hW2]; exact (by (try simp only [ext_ext]); repeat (first | exact Bel.refl _ | assumption | refine bel_and ?_ _ | refine bel_drews ?_ _ | refine Bel.ext ?_ _ | refine Bel.alloc ?_ _ | refine Bel.drewN ?_ _))
      have hb3 : Bel ((w.alloc (.cells #[.slice A l.length c] 24)).alloc (.cells #[.int .i64 n, .int .i64 d] 49)) W2 := by rw [← hW2]; exact bel_ext _ _
      have e1 : (w.alloc (.cells #[.slice A l.length c] 24)).heap.size = w.heap.size + 1 := by simp [go_sem]
      have r0 := Held.new (j := 0) hb3 rfl
      have r1 := Held.new (j := 1) hb3 rfl
      rw [e1] at r0 r1
      have q5 := q4.out A2 c2 (w.heap.size + 1) (w.heap.size + 2) W2 own3 hb2 (by omega) (by omega) r0 r1
      clear hW2 hZ q4 q3 q2 q r0 r1 hb3 own3
      go_wp2_with (go_at_call 113; refine q5.mono ?_; rintro e _ ⟨rfl, y, rfl, own4⟩)
      go_ret2
      refine ⟨A2, c2, ?_, y, rfl, ?_⟩
      · rw [HL.out]; rfl
      · rw [HL.out]; exact own4.base_le (by omega)
    · rw [show fieldSorted l n d = ([], ratioChk n d) by unfold fieldSorted; rw [if_neg (by simpa using h), if_pos h2]]
      have h2' : (ratioChk n d != 0) = true := by simpa using h2
      clear h h64 hchk hinc h2 hn hd
      go_enter Try.func90, Try.ntmps90
      go_wp2_with (first | (go_at_call 25; refine (q.out _ (by (try simp only [ext_ext]); repeat (first | exact Bel.refl _ | assumption | refine bel_and ?_ _ | refine bel_drews ?_ _ | refine Bel.ext ?_ _ | refine Bel.alloc ?_ _ | refine Bel.drewN ?_ _))).mono ?_; rintro e _ ⟨rfl, nx, rfl⟩) | (go_at_call 102; refine (q2.out _).mono ?_; rintro e _ ⟨rfl, nx, rfl⟩))
      go_ret2
      exact ⟨none, 0, rfl, own_exists (by (try simp only [ext_ext]); repeat (first | exact Bel.refl _ | assumption | refine bel_and ?_ _ | refine bel_drews ?_ _ | refine Bel.ext ?_ _ | refine Bel.alloc ?_ _ | refine Bel.drewN ?_ _)) (Own.nil_ _ _ _ _) (Bel.refl _)⟩
  · rw [show fieldSorted l n d = ([], fieldChk l) by unfold fieldSorted; rw [if_pos h]]
    have h' : (fieldChk l != 0) = true := by simpa using h
    clear h hn hd
    go_enter Try.func90, Try.ntmps90
    go_wp2_with (first | (go_at_call 25; refine (q.out _ (by (try simp only [ext_ext]); repeat (first | exact Bel.refl _ | assumption | refine bel_and ?_ _ | refine bel_drews ?_ _ | refine Bel.ext ?_ _ | refine Bel.alloc ?_ _ | refine Bel.drewN ?_ _))).mono ?_; rintro e _ ⟨rfl, nx, rfl⟩))
    go_ret2
    exact ⟨none, 0, rfl, own_exists (by (try simp only [ext_ext]); repeat (first | exact Bel.refl _ | assumption | refine bel_and ?_ _ | refine bel_drews ?_ _ | refine Bel.ext ?_ _ | refine Bel.alloc ?_ _ | refine Bel.drewN ?_ _)) (Own.nil_ _ _ _ _) (Bel.refl _)⟩
end Go.Proofs.Ytkcpnclgcmnlcaa

namespace Go.Pel
def fieldLeader (l : List Pt) (n d : Int) : Int × Int := if (fieldSorted l n d).2 ≠ 0 then (0, (fieldSorted l n d).2) else match (fieldSorted l n d).1 with | [] => (0, 42) | p :: _ => (p.id, 0)
end Go.Pel
namespace Go.Proofs.Ytkcpnclgcmnlcaa
open Go.RowKit Go.Pel
set_option maxRecDepth 10000 in
set_option maxHeartbeats 2000000 in
theorem leader_any (A : Option Addr) (c : Nat) (l : List Pt) (n d : Int) (w : World) (hn : -9223372036854775808 ≤ n ∧ n ≤ 9223372036854775807) (hd : -9223372036854775808 ≤ d ∧ d ≤ 9223372036854775807) (hs : Sl w 3 A l.length c (vp l)) (hn0 : A = none → c = 0) :
    Calls Try.prog 50 #[.agg #[.slice A l.length c], .agg #[.int .i64 n, .int .i64 d]] w fun e w' => e = .returned (.tuple #[.int .i64 (fieldLeader l n d).1, .int .i64 (fieldLeader l n d).2]) ∧ ∃ x, w' = ext w x := by
  have q := Lib.hid (fun W hb => sorted_any A c l n d W hn hd (hs.bel (w' := W) hb) hn0)
  unfold fieldLeader
  generalize fieldSorted l n d = F at q ⊢
  obtain ⟨m, v⟩ := F
  simp only at q ⊢
  by_cases h : v = 0
  · subst h
    rw [if_neg (by decide)]
    cases m with
    | nil =>
      clear hn hd
      go_enter Try.func50, Try.ntmps50
      go_wp2_with (go_at_call 90; refine (q.out _ (by (try simp only [ext_ext]); repeat (first | exact Bel.refl _ | assumption | refine bel_and ?_ _ | refine bel_drews ?_ _ | refine Bel.ext ?_ _ | refine Bel.alloc ?_ _ | refine Bel.drewN ?_ _))).mono ?_; rintro e _ ⟨A2, c2, rfl, x2, rfl, own2⟩)
      go_ret2
      exact ⟨rfl, ext_of (by (try simp only [ext_ext]); repeat (first | exact Bel.refl _ | assumption | refine bel_and ?_ _ | refine bel_drews ?_ _ | refine Bel.ext ?_ _ | refine Bel.alloc ?_ _ | refine Bel.drewN ?_ _))⟩
    | cons p r =>
      clear hn hd
      go_enter Try.func50, Try.ntmps50
      go_wp2_with (go_at_call 90; refine (q.out _ (by (try simp only [ext_ext]); repeat (first | exact Bel.refl _ | assumption | refine bel_and ?_ _ | refine bel_drews ?_ _ | refine Bel.ext ?_ _ | refine Bel.alloc ?_ _ | refine Bel.drewN ?_ _))).mono ?_; rintro e _ ⟨A2, c2, rfl, x2, rfl, own2⟩; have s2 := own2.sl; have hlen : (0 : Int) < ((p :: r).length : Int) := (Int.ofNat_lt.2 (Nat.succ_pos _)); have hz : (((p :: r).length : Int) == 0) = false := (by rw [beq_eq_false_iff_ne]; omega); obtain ⟨b, o, rfl, hb2⟩ := s2.at_ (by simp); obtain ⟨r0, _, _⟩ := pt_at s2 (i := 0) (p := p) rfl; rw [Nat.zero_mul, Nat.add_zero] at r0; clear own2 s2)
      go_ret2
      exact ⟨rfl, ext_of (by (try simp only [ext_ext]); repeat (first | exact Bel.refl _ | assumption | refine bel_and ?_ _ | refine bel_drews ?_ _ | refine Bel.ext ?_ _ | refine Bel.alloc ?_ _ | refine Bel.drewN ?_ _))⟩
  · rw [if_pos h]
    have h' : (v != 0) = true := by simpa using h
    clear h hn hd
    go_enter Try.func50, Try.ntmps50
    go_wp2_with (go_at_call 90; refine (q.out _ (by (try simp only [ext_ext]); repeat (first | exact Bel.refl _ | assumption | refine bel_and ?_ _ | refine bel_drews ?_ _ | refine Bel.ext ?_ _ | refine Bel.alloc ?_ _ | refine Bel.drewN ?_ _))).mono ?_; rintro e _ ⟨A2, c2, rfl, x2, rfl, own2⟩)
    go_ret2
    exact ⟨rfl, ext_of (by (try simp only [ext_ext]); repeat (first | exact Bel.refl _ | assumption | refine bel_and ?_ _ | refine bel_drews ?_ _ | refine Bel.ext ?_ _ | refine Bel.alloc ?_ _ | refine Bel.drewN ?_ _))⟩
end Go.Proofs.Ytkcpnclgcmnlcaa

namespace Go.Pel
open Go
def vi (l : List Int) : List Value := l.map (Value.int .i64)
def fieldOrder (l : List Pt) (n d : Int) : List Int × Int := if (fieldSorted l n d).2 ≠ 0 then ([], (fieldSorted l n d).2) else ((fieldSorted l n d).1.map Pt.id, 0)
def ordAt (m : List Pt) (k : Nat) : List Value := vi ((m.take k).map Pt.id) ++ List.replicate (m.length - k) (.int .i64 0)
theorem ordAt_set {m : List Pt} {k : Nat} {p : Pt} (h : m[k]? = some p) : (ordAt m k).set k (.int .i64 p.id) = ordAt m (k + 1) := by
  have hk := (List.getElem?_eq_some_iff.1 h).1
  unfold ordAt
  have hl : (vi ((m.take k).map Pt.id)).length = k := by simp [vi]; omega
  rw [List.set_append_right _ _ (by omega), hl, Nat.sub_self]
  obtain ⟨r, hr⟩ : ∃ r, m.length - k = r + 1 := ⟨m.length - k - 1, by omega⟩
  rw [hr, List.replicate_succ, List.set_cons_zero, List.take_add_one, h]
  simp [vi, show m.length - (k + 1) = r by omega]
theorem ordAt_get {m : List Pt} {k : Nat} (hk : k < m.length) : (ordAt m k)[k]? = some (.int .i64 0) := by
  unfold ordAt
  have hl : (vi ((m.take k).map Pt.id)).length = k := by simp [vi]; omega
  rw [List.getElem?_append_right (by omega), hl, Nat.sub_self, List.getElem?_replicate, if_pos (by omega)]
theorem ordAt_end (m : List Pt) : ordAt m m.length = vi (m.map Pt.id) := by simp [ordAt]
end Go.Pel
namespace Go.Proofs.Ytkcpnclgcmnlcaa
open Go.RowKit Go.Pel
theorem slt_ints : SlT Try.prog 45 3 (.int .i64 0) 1 8 := ⟨by kernel_rfl, by kernel_rfl, by kernel_rfl, by decide, by decide⟩
theorem made_ints (n : Nat) : (madeCells (Value.int .i64 0).cells (n * 1)).toList = List.replicate n (.int .i64 0) := by
  apply List.ext_getElem?
  intro k
  by_cases hk : k < n <;> simp [madeCells, Value.cells, Nat.mod_one, List.getElem?_replicate, hk]
set_option maxRecDepth 10000 in
set_option maxHeartbeats 2000000 in
theorem order_any (A : Option Addr) (c : Nat) (l : List Pt) (n d : Int) (w : World) (hn : -9223372036854775808 ≤ n ∧ n ≤ 9223372036854775807) (hd : -9223372036854775808 ≤ d ∧ d ≤ 9223372036854775807) (hs : Sl w 3 A l.length c (vp l)) (hn0 : A = none → c = 0) (hl : l.length ≤ 1000000) :
    Calls Try.prog 52 #[.agg #[.slice A l.length c], .agg #[.int .i64 n, .int .i64 d]] w fun e w' => ∃ A' c', e = .returned (.tuple #[.slice A' (fieldOrder l n d).1.length c', .int .i64 (fieldOrder l n d).2]) ∧ ∃ x, w' = ext w x ∧ Own (ext w x) w.heap.size 3 1 A' (fieldOrder l n d).1.length c' (vi (fieldOrder l n d).1) := by
  have q := Lib.hid (fun W hb => sorted_any A c l n d W hn hd (hs.bel (w' := W) hb) hn0)
  have hlm : (fieldSorted l n d).1.length ≤ 1000000 := by
    unfold fieldSorted; split
    · simp
    · split
      · simp
      · rw [sortP_length]; exact hl
  unfold fieldOrder
  generalize fieldSorted l n d = F at q hlm ⊢
  obtain ⟨m, v⟩ := F
  simp only at q hlm ⊢
  by_cases h : v = 0
  · subst h
    rw [if_neg (by decide)]
    simp only [List.length_map]
    clear hn hd
    go_enter Try.func52, Try.ntmps52
    go_wp2_with (first | (refine make_ext slt_ints (Bel.refl _) (n := m.length) (by omega) rfl _ _ rfl rfl rfl ?_; rintro g y hg hown; rw [made_ints] at hown; have hL2 := own2.sl) | (go_at_call 90; refine (q.out _ (by (try simp only [ext_ext]); repeat (first | exact Bel.refl _ | assumption | refine bel_and ?_ _ | refine bel_drews ?_ _ | refine Bel.ext ?_ _ | refine Bel.alloc ?_ _ | refine Bel.drewN ?_ _))).mono ?_; rintro e W1 ⟨A2, c2, rfl, hx2⟩; have own2 := own_here hx2; have hb0 := bel_of (own_split hx2); have hb1 : Bel w W1 := (by refine Bel.trans ?_ hb0; exact (by (try simp only [ext_ext]); repeat (first | exact Bel.refl _ | assumption | refine bel_and ?_ _ | refine bel_drews ?_ _ | refine Bel.ext ?_ _ | refine Bel.alloc ?_ _ | refine Bel.drewN ?_ _))); clear hx2 hb0))
    clear own2
    go_loopw [25] (fun i wr => ∃ (k : Nat) (y : Beyond), k ≤ m.length ∧ i = .int .i64 k ∧ wr = ext W1 y ∧ Own (ext W1 y) W1.heap.size 3 1 (some ⟨g, 0, none⟩) m.length m.length (ordAt m k)) (fun i _ => m.length - (intOf i).toNat)
    case atStart => exact ⟨0, y, Nat.zero_le _, rfl, rfl, by simpa [ordAt, vi] using hown⟩
    case round =>
      obtain ⟨k, y3, hk, rfl, rfl, own3⟩ := hrel
      by_cases hlt : k < m.length
      · obtain ⟨p, hp⟩ : ∃ p, m[k]? = some p := ⟨_, List.getElem?_eq_getElem hlt⟩
        have HS := Lib.hid (ordAt_set hp)
        have b0 := own_cell own3 (ordAt_get hlt)
        have z0 := own_frozen own3 k
        obtain ⟨b, o, rfl, hb2⟩ := hL2.at_ (by omega)
        obtain ⟨r0, r1, r2⟩ := pt_at (hL2.bel (w' := ext W1 y3) (bel_ext _ _)) hp
        have hlt' : (k : Int) < (m.length : Int) := by omega
        have hgs := own3.ats.2
        have hb3 : b < (ext W1 y3).heap.size := by simp [go_sem]; omega
        have hb4 : Bel W1 (ext W1 y3) := bel_ext _ _
        clear hp hown
        generalize ext W1 y3 = V at *
        have hgne : ¬ g = V.heap.size := by omega
        have hgne' : ¬ V.heap.size = g := by omega
        go_wp2
        go_roundw
        case rel =>
          obtain ⟨y5, hy5, own5⟩ := own_exists (w := W1) ((hb4.setCell (p := ⟨g, k, none⟩) hg (.int .i64 p.id)).alloc (.cells #[.int .i64 p.id, .int .i64 p.a, .int .i64 p.b] 26)) (World.ownsRow.stored own3 k (.int .i64 p.id)).1 ((Bel.refl _).alloc _)
          rw [HS.out] at own5
          exact ⟨k + 1, y5, by omega, by go_num, hy5, own5⟩
        case measure => (first | (simp [intOf]; done) | (simp [intOf]; omega))
      · obtain rfl : k = m.length := by omega
        rw [ordAt_end] at own3
        go_wp2
        go_ret2
        exact ⟨some ⟨g, 0, none⟩, m.length, rfl, own_exists (by (try simp only [ext_ext]); repeat (first | exact Bel.refl _ | assumption | refine bel_and ?_ _ | refine bel_drews ?_ _ | refine Bel.ext ?_ _ | refine Bel.alloc ?_ _ | refine Bel.drewN ?_ _)) (own3.base_le hb1.size) (Bel.refl _)⟩
  · rw [if_pos h]
    have h' : (v != 0) = true := by simpa using h
    clear h hn hd
    go_enter Try.func52, Try.ntmps52
    go_wp2_with (go_at_call 90; refine (q.out _ (by (try simp only [ext_ext]); repeat (first | exact Bel.refl _ | assumption | refine bel_and ?_ _ | refine bel_drews ?_ _ | refine Bel.ext ?_ _ | refine Bel.alloc ?_ _ | refine Bel.drewN ?_ _))).mono ?_; rintro e _ ⟨A2, c2, rfl, x2, rfl, own2⟩)
    go_ret2
    exact ⟨none, 0, rfl, own_exists (by (try simp only [ext_ext]); repeat (first | exact Bel.refl _ | assumption | refine bel_and ?_ _ | refine bel_drews ?_ _ | refine Bel.ext ?_ _ | refine Bel.alloc ?_ _ | refine Bel.drewN ?_ _)) (Own.nil_ _ _ _ _) (Bel.refl _)⟩
end Go.Proofs.Ytkcpnclgcmnlcaa

namespace Go.Pel
open Go Go.RowKit
def ixI (l : List Int) (x : Int) : Int := match l.findIdx? (· == x) with | some k => (k : Int) | none => -1
theorem ixI_hit {l : List Int} {x : Int} {k : Nat} (hk : l[k]? = some x) (h : ∀ (i : Nat) (y : Int), i < k → l[i]? = some y → y ≠ x) : ixI l x = k := by
  have : l.findIdx? (· == x) = some k := by
    rw [List.findIdx?_eq_some_iff_getElem]
    obtain ⟨h1, h2⟩ := List.getElem?_eq_some_iff.1 hk
    refine ⟨h1, by simp [h2], fun j hj => ?_⟩
    have := h j _ hj (List.getElem?_eq_getElem (by omega))
    simpa using this
  unfold ixI; rw [this]
theorem ixI_miss {l : List Int} {x : Int} (h : ∀ (i : Nat) (y : Int), l[i]? = some y → y ≠ x) : ixI l x = -1 := by
  have : l.findIdx? (· == x) = none := by
    rw [List.findIdx?_eq_none_iff]
    intro y hy
    obtain ⟨i, hi⟩ := List.mem_iff_getElem?.1 hy
    simpa using h i y hi
  unfold ixI; rw [this]
theorem ixI_range (l : List Int) (x : Int) : ixI l x = -1 ∨ (0 ≤ ixI l x ∧ ixI l x < l.length ∧ l[(ixI l x).toNat]? = some x) := by
  unfold ixI
  cases h : l.findIdx? (· == x) with
  | none => exact .inl rfl
  | some k =>
    rw [List.findIdx?_eq_some_iff_getElem] at h
    obtain ⟨h1, h2, _⟩ := h
    refine .inr ⟨by simp, by simpa using h1, ?_⟩
    simp [h1]; simpa using h2
theorem sl_int {w : World} {b o n c : Nat} {l : List Int} (h : Sl w 1 (some ⟨b, o, none⟩) n c (vi l)) {k : Nat} {x : Int} (hx : l[k]? = some x) : w.cell? ⟨b, o + k, none⟩ = some (.int .i64 x) := by
  have hl := h.2.1
  have hk := (List.getElem?_eq_some_iff.1 hx).1
  obtain ⟨b', o', hA, _, hc⟩ := h.2.2 (by simp [vi] at hl; omega)
  injection hA with hA; injection hA with h1 h2
  subst h1 h2
  exact hc k _ (by simp [vi, hx])
def fieldRank (l : List Pt) (id n d : Int) : Int × Int := if (fieldOrder l n d).2 ≠ 0 then (0, (fieldOrder l n d).2) else if ixI (fieldOrder l n d).1 id < 0 then (0, 6) else (ixI (fieldOrder l n d).1 id, 0)
end Go.Pel
namespace Go.Proofs.Ytkcpnclgcmnlcaa
open Go.RowKit Go.Pel
set_option maxRecDepth 10000 in
set_option maxHeartbeats 2000000 in
theorem index_any (A : Option Addr) (c : Nat) (l : List Int) (x : Int) (w : World) (hs : Sl w 1 A l.length c (vi l)) (hl : l.length ≤ 1000000) :
    Calls Try.prog 92 #[.slice A l.length c, .int .i64 x] w fun e w' => e = .returned (.int .i64 (ixI l x)) ∧ ∃ x, w' = ext w x := by
  go_enter Try.func92, Try.ntmps92
  go_wp2
  go_loopw [8] (fun i wr => ∃ k : Nat, k ≤ l.length ∧ i = .int .i64 k ∧ (∀ (i : Nat) (y : Int), i < k → l[i]? = some y → y ≠ x) ∧ ∃ y, wr = ext w y) (fun i _ => l.length - (intOf i).toNat)
  case atStart => exact ⟨0, Nat.zero_le _, rfl, (by intro i y h; omega), ext_of (Bel.refl _)⟩
  case round =>
    obtain ⟨k, hk, rfl, h1, y, rfl⟩ := hrel
    have H1 := Lib.hid h1
    clear h1
    by_cases hlt : k < l.length
    · obtain ⟨v, hv⟩ : ∃ v, l[k]? = some v := ⟨_, List.getElem?_eq_getElem hlt⟩
      obtain ⟨b, o, rfl, hb⟩ := hs.at_ (by omega)
      have c0 := sl_int (hs.bel (w' := ext w y) (bel_ext _ _)) hv
      have HV := Lib.hid hv
      clear hv
      have hlt' : (k : Int) < (l.length : Int) := by omega
      by_cases hx : v = x
      · subst hx
        have HR := Lib.hid (ixI_hit HV.out H1.out)
        go_wp2
        (go_ret; exact ⟨ret_int (by exact HR.out.symm), ext_of (by (try simp only [ext_ext]); repeat (first | exact Bel.refl _ | assumption | refine bel_and ?_ _ | refine bel_drews ?_ _ | refine Bel.ext ?_ _ | refine Bel.alloc ?_ _ | refine Bel.drewN ?_ _))⟩)
      · have hx' : (x == v) = false := by simpa using Ne.symm hx
        have HN := Lib.hid hx
        clear hx
        go_wp2
        go_roundw
        case rel =>
          refine ⟨k + 1, by omega, by go_num, ?_, ext_of (by (try simp only [ext_ext]); repeat (first | exact Bel.refl _ | assumption | refine bel_and ?_ _ | refine bel_drews ?_ _ | refine Bel.ext ?_ _ | refine Bel.alloc ?_ _ | refine Bel.drewN ?_ _))⟩
          intro i z hi hz
          rcases Nat.lt_or_ge i k with h | h
          · exact H1.out i z h hz
          · obtain rfl : i = k := by omega
            rw [HV.out] at hz; obtain rfl := Option.some.inj hz; exact HN.out
        case measure => (first | (simp [intOf]; done) | (simp [intOf]; omega))
    · obtain rfl : k = l.length := by omega
      have HR := Lib.hid (ixI_miss (l := l) (x := x) (fun i y hi => H1.out i y (List.getElem?_eq_some_iff.1 hi).1 hi))
      go_wp2
      (go_ret; exact ⟨ret_int (by exact HR.out.symm), ext_of (by (try simp only [ext_ext]); repeat (first | exact Bel.refl _ | assumption | refine bel_and ?_ _ | refine bel_drews ?_ _ | refine Bel.ext ?_ _ | refine Bel.alloc ?_ _ | refine Bel.drewN ?_ _))⟩)
set_option maxRecDepth 10000 in
set_option maxHeartbeats 2000000 in
theorem rank_any (A : Option Addr) (c : Nat) (l : List Pt) (id n d : Int) (w : World) (hn : -9223372036854775808 ≤ n ∧ n ≤ 9223372036854775807) (hd : -9223372036854775808 ≤ d ∧ d ≤ 9223372036854775807) (hs : Sl w 3 A l.length c (vp l)) (hn0 : A = none → c = 0) (hl : l.length ≤ 1000000) :
    Calls Try.prog 54 #[.agg #[.slice A l.length c], .int .i64 id, .agg #[.int .i64 n, .int .i64 d]] w fun e w' => e = .returned (.tuple #[.int .i64 (fieldRank l id n d).1, .int .i64 (fieldRank l id n d).2]) ∧ ∃ x, w' = ext w x := by
  have q := Lib.hid (fun W hb => order_any A c l n d W hn hd (hs.bel (w' := W) hb) hn0 hl)
  have hlm : (fieldOrder l n d).1.length ≤ 1000000 := by
    unfold fieldOrder fieldSorted; split
    · simp
    · split
      · simp
      · split
        · simp
        · simp [sortP_length]; exact hl
  unfold fieldRank
  generalize fieldOrder l n d = F at q hlm ⊢
  obtain ⟨m, v⟩ := F
  simp only at q hlm ⊢
  have q2 := Lib.hid (fun (A2 : Option Addr) (c2 : Nat) (W : World) (h2 : Sl W 1 A2 m.length c2 (vi m)) => index_any A2 c2 m id W h2 hlm)
  generalize ixI m id = j at q2 ⊢
  by_cases h : v = 0
  · subst h
    rw [if_neg (by decide)]
    clear hn hd
    by_cases hj : j < 0
    · rw [if_pos hj]
      go_enter Try.func54, Try.ntmps54
      go_wp2_with (first | (go_at_call 52; refine (q.out _ (by (try simp only [ext_ext]); repeat (first | exact Bel.refl _ | assumption | refine bel_and ?_ _ | refine bel_drews ?_ _ | refine Bel.ext ?_ _ | refine Bel.alloc ?_ _ | refine Bel.drewN ?_ _))).mono ?_; rintro e _ ⟨A2, c2, rfl, x2, rfl, own2⟩; have s2 := own2.sl; clear own2) | (go_at_call 92; refine (q2.out _ _ _ (s2.bel (by (try simp only [ext_ext]); repeat (first | exact Bel.refl _ | assumption | refine bel_and ?_ _ | refine bel_drews ?_ _ | refine Bel.ext ?_ _ | refine Bel.alloc ?_ _ | refine Bel.drewN ?_ _)))).mono ?_; rintro e _ ⟨rfl, nx, rfl⟩))
      go_ret2
      exact ⟨rfl, ext_of (by (try simp only [ext_ext]); repeat (first | exact Bel.refl _ | assumption | refine bel_and ?_ _ | refine bel_drews ?_ _ | refine Bel.ext ?_ _ | refine Bel.alloc ?_ _ | refine Bel.drewN ?_ _))⟩
    · rw [if_neg hj]
      have hj' : 0 ≤ j := by omega
      go_enter Try.func54, Try.ntmps54
      go_wp2_with (first | (go_at_call 52; refine (q.out _ (by (try simp only [ext_ext]); repeat (first | exact Bel.refl _ | assumption | refine bel_and ?_ _ | refine bel_drews ?_ _ | refine Bel.ext ?_ _ | refine Bel.alloc ?_ _ | refine Bel.drewN ?_ _))).mono ?_; rintro e _ ⟨A2, c2, rfl, x2, rfl, own2⟩; have s2 := own2.sl; clear own2) | (go_at_call 92; refine (q2.out _ _ _ (s2.bel (by (try simp only [ext_ext]); repeat (first | exact Bel.refl _ | assumption | refine bel_and ?_ _ | refine bel_drews ?_ _ | refine Bel.ext ?_ _ | refine Bel.alloc ?_ _ | refine Bel.drewN ?_ _)))).mono ?_; rintro e _ ⟨rfl, nx, rfl⟩))
      go_ret2
      exact ⟨rfl, ext_of (by (try simp only [ext_ext]); repeat (first | exact Bel.refl _ | assumption | refine bel_and ?_ _ | refine bel_drews ?_ _ | refine Bel.ext ?_ _ | refine Bel.alloc ?_ _ | refine Bel.drewN ?_ _))⟩
  · rw [if_pos h]
    have h' : (v != 0) = true := by simpa using h
    clear h hn hd
    go_enter Try.func54, Try.ntmps54
    go_wp2_with (go_at_call 52; refine (q.out _ (by (try simp only [ext_ext]); repeat (first | exact Bel.refl _ | assumption | refine bel_and ?_ _ | refine bel_drews ?_ _ | refine Bel.ext ?_ _ | refine Bel.alloc ?_ _ | refine Bel.drewN ?_ _))).mono ?_; rintro e _ ⟨A2, c2, rfl, x2, rfl, own2⟩)
    go_ret2
    exact ⟨rfl, ext_of (by (try simp only [ext_ext]); repeat (first | exact Bel.refl _ | assumption | refine bel_and ?_ _ | refine bel_drews ?_ _ | refine Bel.ext ?_ _ | refine Bel.alloc ?_ _ | refine Bel.drewN ?_ _))⟩
end Go.Proofs.Ytkcpnclgcmnlcaa
