/- For every list of asks and all bytes: decode's Write, Read and Wild return what the reference returns, and leave what they are given as it is: the statement DecodeLists. No condition. -/
import Derived.Test.YtijinelgbiombaaDec18
import Derived.Test.YtijinelgbiombaaDec20
import Derived.Test.YtijinelgbiombaaDec22
import Derived.Test.YtijinelgbiombaaDec28
import Derived.Test.YtijinelgbiombaaDec31
import Derived.Test.YtijinelgbiombaaMem3
import Derived.Test.YtijinelgbiombaaArgs36
import Derived.Test.YtijinelgbiombaaArgsS
import Derived.Test.YtijinelgbiombaaSpec36f
set_option linter.unusedSimpArgs false
set_option linter.unusedVariables false
namespace Go.Proofs.Ytijinelgbiombaa
open Go.ChangeShapes Go.WideShapes Go.ChangeAt Go.RowKit Go.Pel
set_option maxHeartbeats 400000 in
theorem longB_any (A : Option Addr) (n c : Nat) (w : World) : Calls Try.prog 9 #[.slice A n c] w fun e w' => e = .returned (.bool (decide (1200 < n))) ∧ ∃ x, w' = ext w x := by
  go_enter Try.func9, Try.ntmps9
  go_wp2
  (go_ret; exact ⟨ret_bool (by first | rfl | (rw [Bool.eq_iff_iff]; simp; omega)), ext_of (by (try simp only [ext_ext]); repeat (first | exact Bel.refl _ | refine bel_and ?_ _ | refine bel_drews ?_ _ | refine Bel.ext ?_ _ | refine Bel.alloc ?_ _ | refine Bel.drewN ?_ _))⟩)
set_option maxRecDepth 10000 in
set_option maxHeartbeats 4000000 in
theorem lists_walk (A B : Option Addr) (c d : Nat) (m : List Pel.Ask) (l : List UInt8) (w : World) (hm : Sl w 7 A m.length c (va m)) (hmn : A = none → c = 0) (hin : ∀ x ∈ m, x.Fits) (hs : Sl w 1 B l.length d (vb l)) (hn : B = none → d = 0) :
    Calls Try.prog 5 #[.slice A m.length c, .slice B l.length d] w fun e w' => e = .returned (.bool true) ∧ ∃ x, w' = ext w x := by
  by_cases h150 : 150 < m.length
  · go_enter Try.func5, Try.ntmps5
    go_wp2
    (go_ret; exact ⟨ret_bool (by rfl), ext_of (by (try simp only [ext_ext]); repeat (first | exact Bel.refl _ | refine bel_and ?_ _ | refine bel_drews ?_ _ | refine Bel.ext ?_ _ | refine Bel.alloc ?_ _ | refine Bel.drewN ?_ _))⟩)
  by_cases hl : 1200 < l.length
  · have hl' := decide_eq_true hl
    go_enter Try.func5, Try.ntmps5
    go_wp2_with ((go_at_call 9; refine (hl' ▸ longB_any _ _ _ _).mono ?_; rintro e _ ⟨rfl, nx, rfl⟩))
    (go_ret; exact ⟨ret_bool (by rfl), ext_of (by (try simp only [ext_ext]); repeat (first | exact Bel.refl _ | refine bel_and ?_ _ | refine bel_drews ?_ _ | refine Bel.ext ?_ _ | refine Bel.alloc ?_ _ | refine Bel.drewN ?_ _))⟩)
  have hl' := decide_eq_false hl
  have q1 := Lib.hid (fun W hb => write_any A c m W (hm.bel (w' := W) hb) hin)
  have q2 := Lib.hid (fun W hb => refWrite_any A c m W (hm.bel (w' := W) hb) hin)
  have q3 := Lib.hid (fun W hb => read_any B d l W (hs.bel (w' := W) hb) (by omega))
  have q4 := Lib.hid (fun W hb => refRead_any B d l W (hs.bel (w' := W) hb) (by omega))
  have q5 := Lib.hid (fun W hb => wild_any B d l W (hs.bel (w' := W) hb) hn (by omega))
  have q6 := Lib.hid (fun W hb => refWild_any B d l W (hs.bel (w' := W) hb) (by omega))
  have HIN := Lib.hid hin
  clear hin
  go_enter Try.func5, Try.ntmps5
  go_wp2_with (first
    | (go_at_call 9; refine (hl' ▸ longB_any _ _ _ _).mono ?_; rintro e _ ⟨rfl, nx, rfl⟩)
    | (at_builtin; (try refine wpList_unguard rfl (by first | rfl | simp [yielded]) ?_); refine append_new slt_asks (by (try simp only [ext_ext]); repeat (first | exact Bel.refl _ | refine bel_and ?_ _ | refine bel_drews ?_ _ | refine Bel.ext ?_ _ | refine Bel.alloc ?_ _ | refine Bel.drewN ?_ _)) (hm) (by (try simp only [ext_ext]); repeat (first | exact Bel.refl _ | refine bel_and ?_ _ | refine bel_drews ?_ _ | refine Bel.ext ?_ _ | refine Bel.alloc ?_ _ | refine Bel.drewN ?_ _)) (va_one _) (hmn) (by omega) rfl _ _ rfl rfl rfl (by simp [go_sem]) ?_; rintro A1 c1 y1 hown1)
    | (at_builtin; (try refine wpList_unguard rfl (by first | rfl | simp [yielded]) ?_); refine append_new slt_bytes (by (try simp only [ext_ext]); repeat (first | exact Bel.refl _ | refine bel_and ?_ _ | refine bel_drews ?_ _ | refine Bel.ext ?_ _ | refine Bel.alloc ?_ _ | refine Bel.drewN ?_ _)) (hs) (by (try simp only [ext_ext]); repeat (first | exact Bel.refl _ | refine bel_and ?_ _ | refine bel_drews ?_ _ | refine Bel.ext ?_ _ | refine Bel.alloc ?_ _ | refine Bel.drewN ?_ _)) (vb_one _) (hn) (by omega) rfl _ _ rfl rfl rfl (by simp [go_sem]) ?_; rintro A2 c2 y2 hown2)
    | (go_at_call 17; refine (q1.out _ (by (try simp only [ext_ext]); repeat (first | exact Bel.refl _ | refine bel_and ?_ _ | refine bel_drews ?_ _ | refine Bel.ext ?_ _ | refine Bel.alloc ?_ _ | refine Bel.drewN ?_ _))).mono ?_; rintro e _ ⟨A5, c5, rfl, x5, rfl, own5⟩)
    | (go_at_call 18; refine (q2.out _ (by (try simp only [ext_ext]); repeat (first | exact Bel.refl _ | refine bel_and ?_ _ | refine bel_drews ?_ _ | refine Bel.ext ?_ _ | refine Bel.alloc ?_ _ | refine Bel.drewN ?_ _))).mono ?_; rintro e _ ⟨A6, c6, rfl, x6, rfl, own6⟩)
    | (go_at_call 19; refine (q3.out _ (by (try simp only [ext_ext]); repeat (first | exact Bel.refl _ | refine bel_and ?_ _ | refine bel_drews ?_ _ | refine Bel.ext ?_ _ | refine Bel.alloc ?_ _ | refine Bel.drewN ?_ _))).mono ?_; rintro e _ ⟨A7, c7, rfl, x7, rfl, own7⟩)
    | (go_at_call 20; refine (q4.out _ (by (try simp only [ext_ext]); repeat (first | exact Bel.refl _ | refine bel_and ?_ _ | refine bel_drews ?_ _ | refine Bel.ext ?_ _ | refine Bel.alloc ?_ _ | refine Bel.drewN ?_ _))).mono ?_; rintro e _ ⟨A8, c8, rfl, x8, rfl, own8⟩)
    | (go_at_call 21; refine (q5.out _ (by (try simp only [ext_ext]); repeat (first | exact Bel.refl _ | refine bel_and ?_ _ | refine bel_drews ?_ _ | refine Bel.ext ?_ _ | refine Bel.alloc ?_ _ | refine Bel.drewN ?_ _))).mono ?_; rintro e _ ⟨A9, c9, rfl, x9, rfl, own9⟩))
  refine (q6.out _ (by (try simp only [ext_ext]); repeat (first | exact Bel.refl _ | refine bel_and ?_ _ | refine bel_drews ?_ _ | refine Bel.ext ?_ _ | refine Bel.alloc ?_ _ | refine Bel.drewN ?_ _))).mono ?_
  rintro e _ ⟨A10, c10, rfl, x10, rfl, own10⟩
  simp only [ext_ext]
  obtain ⟨W2, hW2⟩ : ∃ W2, ext w ((((((((nx.and y1).and y2).and x5).and x6).and x7).and x8).and x9).and x10) = W2 := ⟨_, rfl⟩
  have hb : Bel w W2 := by rw [← hW2]; exact (by (try simp only [ext_ext]); repeat (first | exact Bel.refl _ | refine bel_and ?_ _ | refine bel_drews ?_ _ | refine Bel.ext ?_ _ | refine Bel.alloc ?_ _ | refine Bel.drewN ?_ _))
  have s1 : Sl W2 7 A1 m.length c1 (va m) := by rw [← hW2]; exact hown1.sl.bel (by (try simp only [ext_ext]); repeat (first | exact Bel.refl _ | refine bel_and ?_ _ | refine bel_drews ?_ _ | refine Bel.ext ?_ _ | refine Bel.alloc ?_ _ | refine Bel.drewN ?_ _))
  have s2 : Own W2 0 5 1 A2 l.length c2 (vb l) := by rw [← hW2]; exact (hown2.bel (by (try simp only [ext_ext]); repeat (first | exact Bel.refl _ | refine bel_and ?_ _ | refine bel_drews ?_ _ | refine Bel.ext ?_ _ | refine Bel.alloc ?_ _ | refine Bel.drewN ?_ _))).base_le (Nat.zero_le _)
  have s5 : Own W2 0 5 1 A5 (wr m).1.length c5 (vb (wr m).1) := by rw [← hW2]; exact (own5.bel (by (try simp only [ext_ext]); repeat (first | exact Bel.refl _ | refine bel_and ?_ _ | refine bel_drews ?_ _ | refine Bel.ext ?_ _ | refine Bel.alloc ?_ _ | refine Bel.drewN ?_ _))).base_le (Nat.zero_le _)
  have s6 : Own W2 0 5 1 A6 (wr m).1.length c6 (vb (wr m).1) := by rw [← hW2]; exact (own6.bel (by (try simp only [ext_ext]); repeat (first | exact Bel.refl _ | refine bel_and ?_ _ | refine bel_drews ?_ _ | refine Bel.ext ?_ _ | refine Bel.alloc ?_ _ | refine Bel.drewN ?_ _))).base_le (Nat.zero_le _)
  have s7 : Sl W2 7 A7 (rd l).1.length c7 (va (rd l).1) := by rw [← hW2]; exact own7.sl.bel (by (try simp only [ext_ext]); repeat (first | exact Bel.refl _ | refine bel_and ?_ _ | refine bel_drews ?_ _ | refine Bel.ext ?_ _ | refine Bel.alloc ?_ _ | refine Bel.drewN ?_ _))
  have s8 : Sl W2 7 A8 (rd l).1.length c8 (va (rd l).1) := by rw [← hW2]; exact own8.sl.bel (by (try simp only [ext_ext]); repeat (first | exact Bel.refl _ | refine bel_and ?_ _ | refine bel_drews ?_ _ | refine Bel.ext ?_ _ | refine Bel.alloc ?_ _ | refine Bel.drewN ?_ _))
  have s9 : Sl W2 7 A9 (wl l).1.length c9 (va (wl l).1) := by rw [← hW2]; exact own9.sl.bel (by (try simp only [ext_ext]); repeat (first | exact Bel.refl _ | refine bel_and ?_ _ | refine bel_drews ?_ _ | refine Bel.ext ?_ _ | refine Bel.alloc ?_ _ | refine Bel.drewN ?_ _))
  have s10 : Sl W2 7 A10 (wl l).1.length c10 (va (wl l).1) := by rw [← hW2]; exact own10.sl.bel (by (try simp only [ext_ext]); repeat (first | exact Bel.refl _ | refine bel_and ?_ _ | refine bel_drews ?_ _ | refine Bel.ext ?_ _ | refine Bel.alloc ?_ _ | refine Bel.drewN ?_ _))
  rw [hW2]
  clear hW2 hown1 hown2 own5 own6 own7 own8 own9 own10
  have u8 := Try.underlying5
  have us := Try.underlying9
  have ub := Try.underlying28
  have cv5 : (convert 28 9 (.slice A5 (wr m).1.length c5)).run Try.prog W2 = .ok (.string ⟨(wr m).1.toArray⟩) W2 := conv_own s5 (Bel.refl _) ub u8 us
  have cv6 : (convert 28 9 (.slice A6 (wr m).1.length c6)).run Try.prog W2 = .ok (.string ⟨(wr m).1.toArray⟩) W2 := conv_own s6 (Bel.refl _) ub u8 us
  have cv1 : ∀ x, (convert 28 9 (.slice B l.length d)).run Try.prog (ext W2 x) = .ok (.string ⟨l.toArray⟩) (ext W2 x) := fun x => conv_any hs hn (hb.ext x) ub u8 us
  have cv2 : ∀ x, (convert 28 9 (.slice A2 l.length c2)).run Try.prog (ext W2 x) = .ok (.string ⟨l.toArray⟩) (ext W2 x) := fun x => conv_own s2 (bel_ext _ _) ub u8 us
  have hrd := rd_len l
  have hwl := wl_len l
  have p1 := Lib.hid (fun W' hb' => same_any A7 A8 c7 c8 (rd l).1 (rd l).1 W' (s7.bel (w' := W') hb') (s8.bel hb') (by omega) (by omega))
  have p2 := Lib.hid (fun W' hb' => same_any A9 A10 c9 c10 (wl l).1 (wl l).1 W' (s9.bel (w' := W') hb') (s10.bel hb') (by omega) (by omega))
  have p3 := Lib.hid (fun W' hb' => same_any A A1 c c1 m m W' ((hm.bel hb).bel (w' := W') hb') (s1.bel hb') (by omega) (by omega))
  clear ub u8 us s1 s2 s5 s6 s7 s8 s9 s10
  go_wp2_with fail
  refine (p1.out _ (by (try simp only [ext_ext]); repeat (first | exact Bel.refl _ | refine bel_and ?_ _ | refine bel_drews ?_ _ | refine Bel.ext ?_ _ | refine Bel.alloc ?_ _ | refine Bel.drewN ?_ _))).mono ?_
  rintro e _ ⟨rfl, xa, rfl⟩
  go_wp2_with fail
  refine (p2.out _ (by (try simp only [ext_ext]); repeat (first | exact Bel.refl _ | refine bel_and ?_ _ | refine bel_drews ?_ _ | refine Bel.ext ?_ _ | refine Bel.alloc ?_ _ | refine Bel.drewN ?_ _))).mono ?_
  rintro e _ ⟨rfl, xb, rfl⟩
  go_wp2_with fail
  refine (p3.out _ (by (try simp only [ext_ext]); repeat (first | exact Bel.refl _ | refine bel_and ?_ _ | refine bel_drews ?_ _ | refine Bel.ext ?_ _ | refine Bel.alloc ?_ _ | refine Bel.drewN ?_ _))).mono ?_
  rintro e _ ⟨rfl, xc, rfl⟩
  go_wp2
  go_ret
  refine ⟨ret_bool (by simp), ?_⟩
  exact ext_of (hb.ext _)
set_option maxRecDepth 100000 in
theorem decodeLists_lifted (os : Os) (started : os.Started) (H : Type) (enc : TypeId × Value → H) :
    ReturnsInHanded {} Try.checked os 5 .any (Rows.decodeListsSpec.pre6 enc Try.prog Try.f5 Rows.decodeListsRow.domain false) (Rows.decodeListsSpec.post enc Try.prog Try.f5 false true false false) := by
  refine returnsInHanded_of_change (C := Try.checked) ownKnob_ started (by kernel_rfl) Try.func5
    (ChangeSpec.witness6 (enc := enc) (C := Try.checked) false ⟨#[], #[.slice none 0 0, .slice none 0 0], []⟩ 8 (by kernel_rfl) (by kernel_rfl) (by kernel_rfl) (by kernel_rfl)) ?_
  intro W base args ds gs before hval0 hW hcnd _
  have hval : ∀ (j : Nat) t v, Try.f5.params[j]? = some t → args[j]? = some v → Value.okWide Try.prog W .any base t v := hval0
  have hW' := hW
  obtain ⟨p, q, hA0, hV, rfl, hfz, hnd⟩ := hW
  have hA : DataW.TrodAll enc Try.prog W 0 (fun _ => true) true Try.f5.params.toList args.toList ds p := hA0
  rw [Try.params5] at hA hval
  obtain ⟨v0, vs0, d0, ds0, p0, q0, hargs, rfl, rfl, h0, r0⟩ := trodAll_cons hA
  obtain ⟨v1, vs1, d1, ds1, p1, q1, rfl, rfl, rfl, h1, r1⟩ := trodAll_cons r0
  obtain ⟨rfl, rfl, rfl⟩ := trodAll_nil r1
  obtain rfl : args = #[v0, v1] := by cases args; simp_all
  obtain ⟨rfl, rfl⟩ := trodVars_none hV
  have k0_ := h0
  have lt0 : ∀ x ∈ p0, x.block < W.heap.size := by obtain ⟨m, hm⟩ := k0_; exact DataW.trod_lt m _ _ _ hm
  have k1_ := h1
  have lt1 : ∀ x ∈ p1, x.block < W.heap.size := by obtain ⟨m, hm⟩ := k1_; exact DataW.trod_lt m _ _ _ hm
  obtain ⟨A0, n0, c0, rfl⟩ := okWide_slice Try.underlying43 (hval 0 43 v0 rfl rfl)
  obtain ⟨fuel0, hf0⟩ := h0
  obtain ⟨l0, rfl, hsl0, hok0, hnil0, hmax0⟩ := arg_slice Pel.Ask.cells Pel.Ask.Fits Try.underlying43 cells_ask (by decide) (fun _ => rfl) ask_read hf0
  obtain ⟨A1, n1, c1, rfl⟩ := okWide_slice Try.underlying28 (hval 1 28 v1 rfl rfl)
  obtain ⟨fuel1, hf1⟩ := h1
  have hnil1 := arg_nil Try.underlying28 hf1
  obtain ⟨l1, rfl, hsl1⟩ := arg_bytes Try.underlying28 Try.underlying5 cells_u8 hf1
  clear hA0 hval0
  refine (lists_walk A0 A1 c0 c1 l0 l1 W hsl0 hnil0 hok0 hsl1 hnil1).mono fun e W' ⟨he, hx⟩ => ?_
  have bel : Below W.heap.size W W' := bel_of hx
  subst he
  exact ⟨_, rfl, _, _, _, [], _, [], hW', trodAll_mk1 (shut_bool Try.underlying4 _), (trodAll_cons_mk (Below.trod laidOut_ (by kernel_rfl) (of_decide_eq_true (by kernel_rfl)) k0_ bel lt0) (trodAll_cons_mk (Below.trod laidOut_ (by kernel_rfl) (of_decide_eq_true (by kernel_rfl)) k1_ bel lt1) trodAll_mk0)), rfl, bel.frame _, fun h => by cases h⟩
theorem decodeLists_over : Rows.decodeListsRow.holds Try.pinned (OpenSpec.ofChange Rows.decodeListsSpec) :=
  OpenClaim.holds_of_wide 5 Try.f5 rfl rfl rfl rfl rfl rfl rfl ⟨rfl, rfl, rfl, rfl, rfl⟩ rfl rfl rfl rfl rfl (by kernel_rfl) Try.func5 (by kernel_rfl)
    (of_decide_eq_true (by kernel_rfl)) (by unfold Func.isWrapper; rw [if_neg (of_decide_eq_false (by kernel_rfl))]; exact ⟨rfl, rfl⟩)
    (fun os started H enc _ => decodeLists_lifted os started H enc)
/-- The statement. -/
theorem decodeLists_holds : Rows.DecodeListsSaid := decodeLists_over
end Go.Proofs.Ytijinelgbiombaa
