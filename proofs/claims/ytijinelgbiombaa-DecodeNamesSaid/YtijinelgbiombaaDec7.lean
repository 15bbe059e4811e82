/- The program's table of numbers, and how many bytes an ask has. -/
import Derived.Test.YtijinelgbiombaaDec3
set_option linter.unusedSimpArgs false
set_option linter.unusedVariables false
namespace Go.Proofs.Ytijinelgbiombaa
open Go.RowKit Go.Pel
/-- rows of the table -/
def fcell (l : List (Int × Int × Int)) : List Value := l.flatMap fun x => [.int .i64 x.1, .int .i64 x.2.1, .int .i64 x.2.2]
def fput : List (Int × Int × Int) := [(1, 2, 0), (2, 3, 1048576), (3, 3, 1048576)]
def ftake : List (Int × Int × Int) := [(0, 2, 0)]
def fmove : List (Int × Int × Int) := [(4, 4, 1073741824), (5, 2, 0)]
/-- block g holds the rows l of the table -/
def Tab (W : World) (g : Nat) (l : List (Int × Int × Int)) : Prop := g < W.heap.size ∧ ∀ j : Nat, W.cell? ⟨g, j, none⟩ = (fcell l)[j]?
theorem Tab.bel {W W' : World} {g : Nat} {l : List (Int × Int × Int)} (h : Tab W g l) (hb : Bel W W') : Tab W' g l := by
  obtain ⟨x, rfl⟩ := ext_of hb
  exact ⟨by rw [size_ext]; have := h.1; omega, fun j => by rw [cell_ext _ _ _ _ h.1]; exact h.2 j⟩
theorem Tab.at_ {W : World} {g j : Nat} {l : List (Int × Int × Int)} {u : Value} (h : Tab W g l) (hu : (fcell l)[j]? = some u) : W.cell? ⟨g, j, none⟩ = some u := (h.2 j).trans hu
set_option maxHeartbeats 400000 in
theorem fields_any (w : World) :
    Calls Try.prog 29 #[] w fun e w' => ∃ g1 g2 g3, e = .returned (.agg #[.slice none 0 0, .slice (some ⟨g1, 0, none⟩) 3 3, .slice (some ⟨g2, 0, none⟩) 1 1, .slice (some ⟨g1, 0, none⟩) 3 3, .slice (some ⟨g3, 0, none⟩) 2 2, .slice none 0 0, .slice none 0 0]) ∧
      ∃ x, w' = ext w x ∧ Tab (ext w x) g1 fput ∧ Tab (ext w x) g2 ftake ∧ Tab (ext w x) g3 fmove := by
  go_enter Try.func29, Try.ntmps29
  go_wp2
  refine bodyPost_ret (v := .agg #[.slice none 0 0, .slice (some ⟨w.heap.size + 1, 0, none⟩) 3 3, .slice (some ⟨w.heap.size + 2, 0, none⟩) 1 1, .slice (some ⟨w.heap.size + 1, 0, none⟩) 3 3, .slice (some ⟨w.heap.size + 3, 0, none⟩) 2 2, .slice none 0 0, .slice none 0 0])
    (by simp [results, Try.results29, go_sem]) rfl ⟨w.heap.size + 1, w.heap.size + 2, w.heap.size + 3, rfl, ?_⟩
  refine exists_ext (Q := fun W => Tab W (w.heap.size + 1) fput ∧ Tab W (w.heap.size + 2) ftake ∧ Tab W (w.heap.size + 3) fmove) (by (try simp only [ext_ext]); repeat (first | exact Bel.refl _ | assumption | refine bel_and ?_ _ | refine bel_drews ?_ _ | refine Bel.ext ?_ _ | refine Bel.alloc ?_ _ | refine Bel.drewN ?_ _)) ⟨?_, ?_, ?_⟩
  · exact ⟨by simp, fun j => by simp [go_sem, fcell, fput]⟩
  · exact ⟨by simp, fun j => by simp [go_sem, fcell, ftake]⟩
  · exact ⟨by simp, fun j => by simp [go_sem, fcell, fmove]⟩

@[go_sem] theorem fields_idx1 (a0 a1 a2 a3 a4 a5 a6 : Option Addr) (n0 n1 n2 n3 n4 n5 n6 c0 c1 c2 c3 c4 c5 c6 : Nat) (w : World) : (Instr.index 59 (.agg #[.slice a0 n0 c0, .slice a1 n1 c1, .slice a2 n2 c2, .slice a3 n3 c3, .slice a4 n4 c4, .slice a5 n5 c5, .slice a6 n6 c6]) (.int .u8 1)).run Try.prog w = .ok (.slice a1 n1 c1) w := by kernel_rfl
@[go_sem] theorem fields_idx2 (a0 a1 a2 a3 a4 a5 a6 : Option Addr) (n0 n1 n2 n3 n4 n5 n6 c0 c1 c2 c3 c4 c5 c6 : Nat) (w : World) : (Instr.index 59 (.agg #[.slice a0 n0 c0, .slice a1 n1 c1, .slice a2 n2 c2, .slice a3 n3 c3, .slice a4 n4 c4, .slice a5 n5 c5, .slice a6 n6 c6]) (.int .u8 2)).run Try.prog w = .ok (.slice a2 n2 c2) w := by kernel_rfl
@[go_sem] theorem fields_idx3 (a0 a1 a2 a3 a4 a5 a6 : Option Addr) (n0 n1 n2 n3 n4 n5 n6 c0 c1 c2 c3 c4 c5 c6 : Nat) (w : World) : (Instr.index 59 (.agg #[.slice a0 n0 c0, .slice a1 n1 c1, .slice a2 n2 c2, .slice a3 n3 c3, .slice a4 n4 c4, .slice a5 n5 c5, .slice a6 n6 c6]) (.int .u8 3)).run Try.prog w = .ok (.slice a3 n3 c3) w := by kernel_rfl
@[go_sem] theorem fields_idx4 (a0 a1 a2 a3 a4 a5 a6 : Option Addr) (n0 n1 n2 n3 n4 n5 n6 c0 c1 c2 c3 c4 c5 c6 : Nat) (w : World) : (Instr.index 59 (.agg #[.slice a0 n0 c0, .slice a1 n1 c1, .slice a2 n2 c2, .slice a3 n3 c3, .slice a4 n4 c4, .slice a5 n5 c5, .slice a6 n6 c6]) (.int .u8 4)).run Try.prog w = .ok (.slice a4 n4 c4) w := by kernel_rfl
@[go_sem] theorem fields_idx5 (a0 a1 a2 a3 a4 a5 a6 : Option Addr) (n0 n1 n2 n3 n4 n5 n6 c0 c1 c2 c3 c4 c5 c6 : Nat) (w : World) : (Instr.index 59 (.agg #[.slice a0 n0 c0, .slice a1 n1 c1, .slice a2 n2 c2, .slice a3 n3 c3, .slice a4 n4 c4, .slice a5 n5 c5, .slice a6 n6 c6]) (.int .u8 5)).run Try.prog w = .ok (.slice a5 n5 c5) w := by kernel_rfl
@[go_sem] theorem fields_idx6 (a0 a1 a2 a3 a4 a5 a6 : Option Addr) (n0 n1 n2 n3 n4 n5 n6 c0 c1 c2 c3 c4 c5 c6 : Nat) (w : World) : (Instr.index 59 (.agg #[.slice a0 n0 c0, .slice a1 n1 c1, .slice a2 n2 c2, .slice a3 n3 c3, .slice a4 n4 c4, .slice a5 n5 c5, .slice a6 n6 c6]) (.int .u8 6)).run Try.prog w = .ok (.slice a6 n6 c6) w := by kernel_rfl

theorem fcell_get (l : List (Int × Int × Int)) (i : Nat) (x : Int × Int × Int) (h : l[i]? = some x) : (fcell l)[i * 3]? = some (.int .i64 x.1) ∧ (fcell l)[i * 3 + 1]? = some (.int .i64 x.2.1) ∧ (fcell l)[i * 3 + 2]? = some (.int .i64 x.2.2) := by
  induction l generalizing i with
  | nil => simp at h
  | cons y l ih =>
    cases i with
    | zero => simp only [List.getElem?_cons_zero, Option.some.injEq] at h; subst h; simp [fcell]
    | succ i =>
      have := ih i (by simpa using h)
      have e : fcell (y :: l) = [.int .i64 y.1, .int .i64 y.2.1, .int .i64 y.2.2] ++ fcell l := by simp [fcell]
      rw [e, show (i + 1) * 3 = i * 3 + 3 from by omega, List.getElem?_append_right (by simp), List.getElem?_append_right (by simp), List.getElem?_append_right (by simp)]
      simpa using this

set_option maxRecDepth 10000 in
set_option maxHeartbeats 1000000 in
theorem size_put (k : Int) (w : World) (hk : k = 1 ∨ k = 3) : Calls Try.prog 33 #[.int .u8 k] w fun e w' => e = .returned (.int .i64 9) ∧ ∃ x, w' = ext w x := by
  rcases hk with rfl | rfl
  all_goals (
    go_enter Try.func33, Try.ntmps33
    go_wp2_with (go_at_call 29; refine (fields_any _).mono ?_; rintro e _ ⟨g1, g2, g3, rfl, x, rfl, hs1, hs2, hs3⟩)
    have c0 := hs1.at_ (j := 0) rfl
    have c1 := hs1.at_ (j := 1) rfl
    have c2 := hs1.at_ (j := 2) rfl
    have c3 := hs1.at_ (j := 3) rfl
    have c4 := hs1.at_ (j := 4) rfl
    have c5 := hs1.at_ (j := 5) rfl
    have c6 := hs1.at_ (j := 6) rfl
    have c7 := hs1.at_ (j := 7) rfl
    have c8 := hs1.at_ (j := 8) rfl
    have hg := hs1.1
    simp only [size_ext] at hg
    refine wp_loop_rounds 4 ?_
    rw [rounds_succ]
    go_wp2
    rw [rounds_succ]
    go_wp2
    rw [rounds_succ]
    go_wp2
    rw [rounds_succ]
    go_wp2
    (go_ret; exact ⟨ret_int (by rfl), ext_of (by (try simp only [ext_ext]); repeat (first | exact Bel.refl _ | assumption | refine bel_and ?_ _ | refine bel_drews ?_ _ | refine Bel.ext ?_ _ | refine Bel.alloc ?_ _ | refine Bel.drewN ?_ _))⟩))

set_option maxRecDepth 10000 in
set_option maxHeartbeats 1000000 in
theorem size_take (w : World) : Calls Try.prog 33 #[.int .u8 2] w fun e w' => e = .returned (.int .i64 3) ∧ ∃ x, w' = ext w x := by
  go_enter Try.func33, Try.ntmps33
  go_wp2_with (go_at_call 29; refine (fields_any _).mono ?_; rintro e _ ⟨g1, g2, g3, rfl, x, rfl, hs1, hs2, hs3⟩)
  have c0 := hs2.at_ (j := 0) rfl
  have c1 := hs2.at_ (j := 1) rfl
  have c2 := hs2.at_ (j := 2) rfl
  have hg := hs2.1
  simp only [size_ext] at hg
  refine wp_loop_rounds 2 ?_
  rw [rounds_succ]
  go_wp2
  rw [rounds_succ]
  go_wp2
  (go_ret; exact ⟨ret_int (by rfl), ext_of (by (try simp only [ext_ext]); repeat (first | exact Bel.refl _ | assumption | refine bel_and ?_ _ | refine bel_drews ?_ _ | refine Bel.ext ?_ _ | refine Bel.alloc ?_ _ | refine Bel.drewN ?_ _))⟩)

set_option maxRecDepth 10000 in
set_option maxHeartbeats 1000000 in
theorem size_move (w : World) : Calls Try.prog 33 #[.int .u8 4] w fun e w' => e = .returned (.int .i64 7) ∧ ∃ x, w' = ext w x := by
  go_enter Try.func33, Try.ntmps33
  go_wp2_with (go_at_call 29; refine (fields_any _).mono ?_; rintro e _ ⟨g1, g2, g3, rfl, x, rfl, hs1, hs2, hs3⟩)
  have c0 := hs3.at_ (j := 0) rfl
  have c1 := hs3.at_ (j := 1) rfl
  have c2 := hs3.at_ (j := 2) rfl
  have c3 := hs3.at_ (j := 3) rfl
  have c4 := hs3.at_ (j := 4) rfl
  have c5 := hs3.at_ (j := 5) rfl
  have hg := hs3.1
  simp only [size_ext] at hg
  refine wp_loop_rounds 3 ?_
  rw [rounds_succ]
  go_wp2
  rw [rounds_succ]
  go_wp2
  rw [rounds_succ]
  go_wp2
  (go_ret; exact ⟨ret_int (by rfl), ext_of (by (try simp only [ext_ext]); repeat (first | exact Bel.refl _ | assumption | refine bel_and ?_ _ | refine bel_drews ?_ _ | refine Bel.ext ?_ _ | refine Bel.alloc ?_ _ | refine Bel.drewN ?_ _))⟩)

set_option maxHeartbeats 1000000 in
theorem size_bare (k : Int) (w : World) (hk : k = 5 ∨ k = 6) : Calls Try.prog 33 #[.int .u8 k] w fun e w' => e = .returned (.int .i64 1) ∧ ∃ x, w' = ext w x := by
  rcases hk with rfl | rfl
  all_goals (
    go_enter Try.func33, Try.ntmps33
    go_wp2_with (go_at_call 29; refine (fields_any _).mono ?_; rintro e _ ⟨g1, g2, g3, rfl, x, rfl, hs1, hs2, hs3⟩)
    refine wp_loop_rounds 1 ?_
    rw [rounds_succ]
    go_wp2
    (go_ret; exact ⟨ret_int (by rfl), ext_of (by (try simp only [ext_ext]); repeat (first | exact Bel.refl _ | assumption | refine bel_and ?_ _ | refine bel_drews ?_ _ | refine Bel.ext ?_ _ | refine Bel.alloc ?_ _ | refine Bel.drewN ?_ _))⟩))

theorem decSize_any (k : Int) (w : World) (h1 : 1 ≤ k) (h2 : k ≤ 6) : Calls Try.prog 33 #[.int .u8 k] w fun e w' => e = .returned (.int .i64 (askLen k)) ∧ ∃ x, w' = ext w x := by
  rcases (by omega : (k = 1 ∨ k = 3) ∨ k = 2 ∨ k = 4 ∨ (k = 5 ∨ k = 6)) with h | rfl | rfl | h
  · rw [askLen_put h]; exact size_put k w h
  · exact size_take w
  · exact size_move w
  · rw [askLen_bare (by omega)]; exact size_bare k w h

/-- a number of an ask -/
def askGet (i a b j n d wh : Int) : Int := if wh = 0 then j else if wh = 1 then i else if wh = 2 then a else if wh = 3 then b else if wh = 4 then n else d
@[go_sem] theorem get_idx0 (x0 x1 x2 x3 x4 x5 : Int) (w : World) : (Instr.index 80 (.agg #[.int .i64 x0, .int .i64 x1, .int .i64 x2, .int .i64 x3, .int .i64 x4, .int .i64 x5]) (.int .i64 0)).run Try.prog w = .ok (.int .i64 x0) w := by kernel_rfl
@[go_sem] theorem get_idx1 (x0 x1 x2 x3 x4 x5 : Int) (w : World) : (Instr.index 80 (.agg #[.int .i64 x0, .int .i64 x1, .int .i64 x2, .int .i64 x3, .int .i64 x4, .int .i64 x5]) (.int .i64 1)).run Try.prog w = .ok (.int .i64 x1) w := by kernel_rfl
@[go_sem] theorem get_idx2 (x0 x1 x2 x3 x4 x5 : Int) (w : World) : (Instr.index 80 (.agg #[.int .i64 x0, .int .i64 x1, .int .i64 x2, .int .i64 x3, .int .i64 x4, .int .i64 x5]) (.int .i64 2)).run Try.prog w = .ok (.int .i64 x2) w := by kernel_rfl
@[go_sem] theorem get_idx3 (x0 x1 x2 x3 x4 x5 : Int) (w : World) : (Instr.index 80 (.agg #[.int .i64 x0, .int .i64 x1, .int .i64 x2, .int .i64 x3, .int .i64 x4, .int .i64 x5]) (.int .i64 3)).run Try.prog w = .ok (.int .i64 x3) w := by kernel_rfl
@[go_sem] theorem get_idx4 (x0 x1 x2 x3 x4 x5 : Int) (w : World) : (Instr.index 80 (.agg #[.int .i64 x0, .int .i64 x1, .int .i64 x2, .int .i64 x3, .int .i64 x4, .int .i64 x5]) (.int .i64 4)).run Try.prog w = .ok (.int .i64 x4) w := by kernel_rfl
@[go_sem] theorem get_idx5 (x0 x1 x2 x3 x4 x5 : Int) (w : World) : (Instr.index 80 (.agg #[.int .i64 x0, .int .i64 x1, .int .i64 x2, .int .i64 x3, .int .i64 x4, .int .i64 x5]) (.int .i64 5)).run Try.prog w = .ok (.int .i64 x5) w := by kernel_rfl
set_option maxRecDepth 10000 in
set_option maxHeartbeats 400000 in
theorem get_0 (k i a b j n d : Int) (w : World) (hj : -9223372036854775808 ≤ j ∧ j ≤ 9223372036854775807) (hi : -9223372036854775808 ≤ i ∧ i ≤ 9223372036854775807) (ha : -9223372036854775808 ≤ a ∧ a ≤ 9223372036854775807) (hb : -9223372036854775808 ≤ b ∧ b ≤ 9223372036854775807) (hn : -9223372036854775808 ≤ n ∧ n ≤ 9223372036854775807) (hd : -9223372036854775808 ≤ d ∧ d ≤ 9223372036854775807) : Calls Try.prog 30 #[.agg #[.int .u8 k, .int .i64 i, .int .i64 a, .int .i64 b, .int .i64 j, .int .i64 n, .int .i64 d], .int .i64 0] w fun e w' => e = .returned (.int .i64 j) ∧ ∃ x, w' = ext w x := by
  obtain ⟨hj1, hj2⟩ := hj; obtain ⟨hi1, hi2⟩ := hi; obtain ⟨ha1, ha2⟩ := ha; obtain ⟨hb1, hb2⟩ := hb; obtain ⟨hn1, hn2⟩ := hn; obtain ⟨hd1, hd2⟩ := hd
  go_enter Try.func30, Try.ntmps30
  go_wp2
  (go_ret; exact ⟨ret_int (by rfl), ext_of (by (try simp only [ext_ext]); repeat (first | exact Bel.refl _ | assumption | refine bel_and ?_ _ | refine bel_drews ?_ _ | refine Bel.ext ?_ _ | refine Bel.alloc ?_ _ | refine Bel.drewN ?_ _))⟩)

set_option maxRecDepth 10000 in
set_option maxHeartbeats 400000 in
theorem get_1 (k i a b j n d : Int) (w : World) (hj : -9223372036854775808 ≤ j ∧ j ≤ 9223372036854775807) (hi : -9223372036854775808 ≤ i ∧ i ≤ 9223372036854775807) (ha : -9223372036854775808 ≤ a ∧ a ≤ 9223372036854775807) (hb : -9223372036854775808 ≤ b ∧ b ≤ 9223372036854775807) (hn : -9223372036854775808 ≤ n ∧ n ≤ 9223372036854775807) (hd : -9223372036854775808 ≤ d ∧ d ≤ 9223372036854775807) : Calls Try.prog 30 #[.agg #[.int .u8 k, .int .i64 i, .int .i64 a, .int .i64 b, .int .i64 j, .int .i64 n, .int .i64 d], .int .i64 1] w fun e w' => e = .returned (.int .i64 i) ∧ ∃ x, w' = ext w x := by
  obtain ⟨hj1, hj2⟩ := hj; obtain ⟨hi1, hi2⟩ := hi; obtain ⟨ha1, ha2⟩ := ha; obtain ⟨hb1, hb2⟩ := hb; obtain ⟨hn1, hn2⟩ := hn; obtain ⟨hd1, hd2⟩ := hd
  go_enter Try.func30, Try.ntmps30
  go_wp2
  (go_ret; exact ⟨ret_int (by rfl), ext_of (by (try simp only [ext_ext]); repeat (first | exact Bel.refl _ | assumption | refine bel_and ?_ _ | refine bel_drews ?_ _ | refine Bel.ext ?_ _ | refine Bel.alloc ?_ _ | refine Bel.drewN ?_ _))⟩)

set_option maxRecDepth 10000 in
set_option maxHeartbeats 400000 in
theorem get_2 (k i a b j n d : Int) (w : World) (hj : -9223372036854775808 ≤ j ∧ j ≤ 9223372036854775807) (hi : -9223372036854775808 ≤ i ∧ i ≤ 9223372036854775807) (ha : -9223372036854775808 ≤ a ∧ a ≤ 9223372036854775807) (hb : -9223372036854775808 ≤ b ∧ b ≤ 9223372036854775807) (hn : -9223372036854775808 ≤ n ∧ n ≤ 9223372036854775807) (hd : -9223372036854775808 ≤ d ∧ d ≤ 9223372036854775807) : Calls Try.prog 30 #[.agg #[.int .u8 k, .int .i64 i, .int .i64 a, .int .i64 b, .int .i64 j, .int .i64 n, .int .i64 d], .int .i64 2] w fun e w' => e = .returned (.int .i64 a) ∧ ∃ x, w' = ext w x := by
  obtain ⟨hj1, hj2⟩ := hj; obtain ⟨hi1, hi2⟩ := hi; obtain ⟨ha1, ha2⟩ := ha; obtain ⟨hb1, hb2⟩ := hb; obtain ⟨hn1, hn2⟩ := hn; obtain ⟨hd1, hd2⟩ := hd
  go_enter Try.func30, Try.ntmps30
  go_wp2
  (go_ret; exact ⟨ret_int (by rfl), ext_of (by (try simp only [ext_ext]); repeat (first | exact Bel.refl _ | assumption | refine bel_and ?_ _ | refine bel_drews ?_ _ | refine Bel.ext ?_ _ | refine Bel.alloc ?_ _ | refine Bel.drewN ?_ _))⟩)

set_option maxRecDepth 10000 in
set_option maxHeartbeats 400000 in
theorem get_3 (k i a b j n d : Int) (w : World) (hj : -9223372036854775808 ≤ j ∧ j ≤ 9223372036854775807) (hi : -9223372036854775808 ≤ i ∧ i ≤ 9223372036854775807) (ha : -9223372036854775808 ≤ a ∧ a ≤ 9223372036854775807) (hb : -9223372036854775808 ≤ b ∧ b ≤ 9223372036854775807) (hn : -9223372036854775808 ≤ n ∧ n ≤ 9223372036854775807) (hd : -9223372036854775808 ≤ d ∧ d ≤ 9223372036854775807) : Calls Try.prog 30 #[.agg #[.int .u8 k, .int .i64 i, .int .i64 a, .int .i64 b, .int .i64 j, .int .i64 n, .int .i64 d], .int .i64 3] w fun e w' => e = .returned (.int .i64 b) ∧ ∃ x, w' = ext w x := by
  obtain ⟨hj1, hj2⟩ := hj; obtain ⟨hi1, hi2⟩ := hi; obtain ⟨ha1, ha2⟩ := ha; obtain ⟨hb1, hb2⟩ := hb; obtain ⟨hn1, hn2⟩ := hn; obtain ⟨hd1, hd2⟩ := hd
  go_enter Try.func30, Try.ntmps30
  go_wp2
  (go_ret; exact ⟨ret_int (by rfl), ext_of (by (try simp only [ext_ext]); repeat (first | exact Bel.refl _ | assumption | refine bel_and ?_ _ | refine bel_drews ?_ _ | refine Bel.ext ?_ _ | refine Bel.alloc ?_ _ | refine Bel.drewN ?_ _))⟩)

set_option maxRecDepth 10000 in
set_option maxHeartbeats 400000 in
theorem get_4 (k i a b j n d : Int) (w : World) (hj : -9223372036854775808 ≤ j ∧ j ≤ 9223372036854775807) (hi : -9223372036854775808 ≤ i ∧ i ≤ 9223372036854775807) (ha : -9223372036854775808 ≤ a ∧ a ≤ 9223372036854775807) (hb : -9223372036854775808 ≤ b ∧ b ≤ 9223372036854775807) (hn : -9223372036854775808 ≤ n ∧ n ≤ 9223372036854775807) (hd : -9223372036854775808 ≤ d ∧ d ≤ 9223372036854775807) : Calls Try.prog 30 #[.agg #[.int .u8 k, .int .i64 i, .int .i64 a, .int .i64 b, .int .i64 j, .int .i64 n, .int .i64 d], .int .i64 4] w fun e w' => e = .returned (.int .i64 n) ∧ ∃ x, w' = ext w x := by
  obtain ⟨hj1, hj2⟩ := hj; obtain ⟨hi1, hi2⟩ := hi; obtain ⟨ha1, ha2⟩ := ha; obtain ⟨hb1, hb2⟩ := hb; obtain ⟨hn1, hn2⟩ := hn; obtain ⟨hd1, hd2⟩ := hd
  go_enter Try.func30, Try.ntmps30
  go_wp2
  (go_ret; exact ⟨ret_int (by rfl), ext_of (by (try simp only [ext_ext]); repeat (first | exact Bel.refl _ | assumption | refine bel_and ?_ _ | refine bel_drews ?_ _ | refine Bel.ext ?_ _ | refine Bel.alloc ?_ _ | refine Bel.drewN ?_ _))⟩)

set_option maxRecDepth 10000 in
set_option maxHeartbeats 400000 in
theorem get_5 (k i a b j n d : Int) (w : World) (hj : -9223372036854775808 ≤ j ∧ j ≤ 9223372036854775807) (hi : -9223372036854775808 ≤ i ∧ i ≤ 9223372036854775807) (ha : -9223372036854775808 ≤ a ∧ a ≤ 9223372036854775807) (hb : -9223372036854775808 ≤ b ∧ b ≤ 9223372036854775807) (hn : -9223372036854775808 ≤ n ∧ n ≤ 9223372036854775807) (hd : -9223372036854775808 ≤ d ∧ d ≤ 9223372036854775807) : Calls Try.prog 30 #[.agg #[.int .u8 k, .int .i64 i, .int .i64 a, .int .i64 b, .int .i64 j, .int .i64 n, .int .i64 d], .int .i64 5] w fun e w' => e = .returned (.int .i64 d) ∧ ∃ x, w' = ext w x := by
  obtain ⟨hj1, hj2⟩ := hj; obtain ⟨hi1, hi2⟩ := hi; obtain ⟨ha1, ha2⟩ := ha; obtain ⟨hb1, hb2⟩ := hb; obtain ⟨hn1, hn2⟩ := hn; obtain ⟨hd1, hd2⟩ := hd
  go_enter Try.func30, Try.ntmps30
  go_wp2
  (go_ret; exact ⟨ret_int (by rfl), ext_of (by (try simp only [ext_ext]); repeat (first | exact Bel.refl _ | assumption | refine bel_and ?_ _ | refine bel_drews ?_ _ | refine Bel.ext ?_ _ | refine Bel.alloc ?_ _ | refine Bel.drewN ?_ _))⟩)
end Go.Proofs.Ytijinelgbiombaa
