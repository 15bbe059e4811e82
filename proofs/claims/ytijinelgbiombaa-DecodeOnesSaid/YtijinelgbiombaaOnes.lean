/- For every ask and all bytes: decode's Check, Encode and Decode return what the reference returns: the statement DecodeOnes. No condition. -/
import Derived.Test.YtijinelgbiombaaDec17
import Derived.Test.YtijinelgbiombaaDec10
import Derived.Test.YtijinelgbiombaaDec6
import Derived.Test.YtijinelgbiombaaArgs36
namespace Go.Proofs.Ytijinelgbiombaa
open Go.ChangeShapes Go.WideShapes Go.ChangeAt Go.RowKit Go.Pel
set_option maxHeartbeats 400000 in
theorem long_any (A : Option Addr) (n c : Nat) (w : World) : Calls Try.prog 9 #[.slice A n c] w fun e w' => e = .returned (.bool (decide (1200 < n))) ∧ ∃ x, w' = ext w x := by
  go_enter Try.func9, Try.ntmps9
  go_wp2
  (go_ret; exact ⟨ret_bool (by first | rfl | (rw [Bool.eq_iff_iff]; simp; omega)), ext_of (by (try simp only [ext_ext]); repeat (first | exact Bel.refl _ | refine bel_and ?_ _ | refine bel_drews ?_ _ | refine Bel.ext ?_ _ | refine Bel.alloc ?_ _ | refine Bel.drewN ?_ _))⟩)
set_option maxRecDepth 10000 in
set_option maxHeartbeats 4000000 in
theorem ones_walk (k i a b j n d : Int) (A : Option Addr) (c : Nat) (l : List UInt8) (w : World) (ha : AskIn k i a b j n d) (hs : Sl w 1 A l.length c (vb l)) :
    Calls Try.prog 3 #[.agg #[.int .u8 k, .int .i64 i, .int .i64 a, .int .i64 b, .int .i64 j, .int .i64 n, .int .i64 d], .slice A l.length c] w fun e w' => e = .returned (.bool true) ∧ ∃ x, w' = ext w x := by
  obtain ⟨⟨k1, k2⟩, ⟨i1, i2⟩, ⟨a1, a2⟩, ⟨b1, b2⟩, ⟨j1, j2⟩, ⟨n1, n2⟩, ⟨d1, d2⟩⟩ := ha
  by_cases hl : 1200 < l.length
  · have hl' := decide_eq_true hl
    go_enter Try.func3, Try.ntmps3
    go_wp2_with (first | (go_at_call 9; refine (hl' ▸ long_any _ _ _ _).mono ?_; rintro e _ ⟨rfl, nx, rfl⟩))
    (go_ret; exact ⟨ret_bool (by rfl), ext_of (by (try simp only [ext_ext]); repeat (first | exact Bel.refl _ | refine bel_and ?_ _ | refine bel_drews ?_ _ | refine Bel.ext ?_ _ | refine Bel.alloc ?_ _ | refine Bel.drewN ?_ _))⟩)
  · have hl' := decide_eq_false hl
    have q1 := Lib.hid (decode_any A c l)
    have q2 := Lib.hid (ref36Decode_any A c l)
    go_enter Try.func3, Try.ntmps3
    go_wp2_with (first
      | (go_at_call 9; refine (hl' ▸ long_any _ _ _ _).mono ?_; rintro e _ ⟨rfl, nx, rfl⟩)
      | (go_at_call 10; refine (encode_any k i a b j n d _ (by omega) (by omega) (by omega) (by omega) (by omega) (by omega)).mono ?_; rintro e _ ⟨A5, c5, rfl, x5, rfl, own5⟩)
      | (go_at_call 11; refine (ref36Encode_any k i a b j n d _ (by omega) (by omega)).mono ?_; rintro e _ ⟨A6, c6, rfl, x6, rfl, own6⟩)
      | (go_at_call 12; refine (q1.out _ (hs.bel (by (try simp only [ext_ext]); repeat (first | exact Bel.refl _ | refine bel_and ?_ _ | refine bel_drews ?_ _ | refine Bel.ext ?_ _ | refine Bel.alloc ?_ _ | refine Bel.drewN ?_ _))) (by omega)).mono ?_; rintro e _ ⟨rfl, x7, rfl⟩)
      | (go_at_call 13; refine (q2.out _ (hs.bel (by (try simp only [ext_ext]); repeat (first | exact Bel.refl _ | refine bel_and ?_ _ | refine bel_drews ?_ _ | refine Bel.ext ?_ _ | refine Bel.alloc ?_ _ | refine Bel.drewN ?_ _))) (by omega)).mono ?_; rintro e _ ⟨rfl, x8, rfl⟩))
    refine wp_have0 (fun W' => (convert 28 9 (.slice A5 (encBytes k i a b j n d).length c5)).run Try.prog W' = .ok (.string ⟨(encBytes k i a b j n d).toArray⟩) W') (fun x => conv_own own5 (by (try simp only [ext_ext]); repeat (first | exact Bel.refl _ | refine bel_and ?_ _ | refine bel_drews ?_ _ | refine Bel.ext ?_ _ | refine Bel.alloc ?_ _ | refine Bel.drewN ?_ _)) Try.underlying28 Try.underlying5 Try.underlying9) ?_
    intro cv5
    refine wp_have0 (fun W' => (convert 28 9 (.slice A6 (encBytes k i a b j n d).length c6)).run Try.prog W' = .ok (.string ⟨(encBytes k i a b j n d).toArray⟩) W') (fun x => conv_own own6 (by (try simp only [ext_ext]); repeat (first | exact Bel.refl _ | refine bel_and ?_ _ | refine bel_drews ?_ _ | refine Bel.ext ?_ _ | refine Bel.alloc ?_ _ | refine Bel.drewN ?_ _)) Try.underlying28 Try.underlying5 Try.underlying9) ?_
    intro cv6
    ((first | refine RegC.wp_region_ext1 (by kernel_rfl) (by kernel_rfl) ?_ | refine RegC.wp_region_ext0 (by kernel_rfl) (by kernel_rfl) ?_); (repeat (any_goals (first | go_big_quiet_step (first | (go_at_call 14; first | exact Calls.ext_of1 (decCheck_any k i a b j n d _ (by omega) (by omega)) | exact Calls.ext_of (decCheck_any k i a b j n d _ (by omega) (by omega))) | (go_at_call 15; first | exact Calls.ext_of1 (ref36Check_any k i a b j n d _ (by omega) (by omega)) | exact Calls.ext_of (ref36Check_any k i a b j n d _ (by omega) (by omega)))) | (refine RegC.wpQuiet_split rfl rfl (fun hb => ?_) (fun hb => ?_) <;> simp only [hb])))); all_goals (refine wpQuiet_nil ?_; rintro _ ⟨nq, rfl⟩))
    go_wp2
    (go_ret; exact ⟨ret_bool (by simp), ext_of (by (try simp only [ext_ext]); repeat (first | exact Bel.refl _ | refine bel_and ?_ _ | refine bel_drews ?_ _ | refine Bel.ext ?_ _ | refine Bel.alloc ?_ _ | refine Bel.drewN ?_ _))⟩)

set_option linter.unusedVariables false
set_option maxRecDepth 100000 in
theorem ones_lifted (os : Os) (started : os.Started) (H : Type) (enc : TypeId × Value → H) :
    ReturnsInHanded {} Try.checked os 3 .any (Rows.decodeOnesSpec.pre6 enc Try.prog Try.f3 Rows.decodeOnesRow.domain false) (Rows.decodeOnesSpec.post enc Try.prog Try.f3 false true false false) := by
  refine returnsInHanded_of_change (C := Try.checked) ownKnob_ started (by kernel_rfl) Try.func3
    (ChangeSpec.witness6 (enc := enc) (C := Try.checked) false ⟨#[], #[.agg #[.int .u8 0, .int .i64 0, .int .i64 0, .int .i64 0, .int .i64 0, .int .i64 0, .int .i64 0], .slice none 0 0], []⟩ 8 (by kernel_rfl) (by kernel_rfl) (by kernel_rfl) (by kernel_rfl)) ?_
  intro W base args ds gs before hval0 hW hcnd _
  have hval : ∀ (j : Nat) t v, Try.f3.params[j]? = some t → args[j]? = some v → Value.okWide Try.prog W .any base t v := hval0
  have hW' := hW
  obtain ⟨p, q, hA0, hV, rfl, hfz, hnd⟩ := hW
  have hA : DataW.TrodAll enc Try.prog W 0 (fun _ => true) true Try.f3.params.toList args.toList ds p := hA0
  rw [Try.params3] at hA hval
  obtain ⟨v0, vs0, d0, ds0, p0, q0, hargs, rfl, rfl, h0, r0⟩ := trodAll_cons hA
  obtain ⟨v1, vs1, d1, ds1, p1, q1, rfl, rfl, rfl, h1, r1⟩ := trodAll_cons r0
  obtain ⟨rfl, rfl, rfl⟩ := trodAll_nil r1
  obtain rfl : args = #[v0, v1] := by cases args; simp_all
  obtain ⟨rfl, rfl⟩ := trodVars_none hV
  have k0 := h0
  have k1 := h1
  have lt0 : ∀ x ∈ p0, x.block < W.heap.size := by obtain ⟨m, hm⟩ := k0; exact DataW.trod_lt m _ _ _ hm
  have lt1 : ∀ x ∈ p1, x.block < W.heap.size := by obtain ⟨m, hm⟩ := k1; exact DataW.trod_lt m _ _ _ hm
  obtain ⟨cs0, rfl, hsz0⟩ := okWide_struct Try.underlying27 (hval 0 27 v0 rfl rfl)
  obtain ⟨l0⟩ := cs0
  obtain ⟨fuel0, hf0⟩ := h0
  obtain ⟨k, i, a, b, j, n, d, rfl, hask⟩ := ask_cells hf0 (by rw [cells_ask] at hsz0; exact hsz0)
  obtain ⟨A1, n1, c1, rfl⟩ := okWide_slice Try.underlying28 (hval 1 28 v1 rfl rfl)
  obtain ⟨fuel1, hf1⟩ := h1
  obtain ⟨l1, rfl, hsl1⟩ := arg_bytes Try.underlying28 Try.underlying5 cells_u8 hf1
  clear hA0 hval0
  refine (ones_walk k i a b j n d A1 c1 l1 W hask hsl1).mono fun e W' ⟨he, hx⟩ => ?_
  have bel : Below W.heap.size W W' := bel_of hx
  subst he
  exact ⟨_, rfl, _, _, _, [], _, [], hW', trodAll_mk1 (shut_bool Try.underlying4 _), (trodAll_cons_mk (Below.trod laidOut_ (by kernel_rfl) (of_decide_eq_true (by kernel_rfl)) k0 bel lt0) (trodAll_cons_mk (Below.trod laidOut_ (by kernel_rfl) (of_decide_eq_true (by kernel_rfl)) k1 bel lt1) trodAll_mk0)), rfl, bel.frame _, fun h => by cases h⟩
theorem ones_over : Rows.decodeOnesRow.holds Try.pinned (OpenSpec.ofChange Rows.decodeOnesSpec) :=
  OpenClaim.holds_of_wide 3 Try.f3 rfl rfl rfl rfl rfl rfl rfl ⟨rfl, rfl, rfl, rfl, rfl⟩ rfl rfl rfl rfl rfl (by kernel_rfl) Try.func3 (by kernel_rfl)
    (of_decide_eq_true (by kernel_rfl)) (by unfold Func.isWrapper; rw [if_neg (of_decide_eq_false (by kernel_rfl))]; exact ⟨rfl, rfl⟩)
    (fun os started H enc _ => ones_lifted os started H enc)
/-- The statement. -/
theorem decodeOnes_holds : Rows.DecodeOnesSaid := ones_over
end Go.Proofs.Ytijinelgbiombaa
