/- For every ask and all bytes: Encode and Decode undo each other, and no first part of an ask's bytes can be read: the statement DecodeBack. No condition. -/
import Derived.Test.YtijinelgbiombaaDec35
import Derived.Test.YtijinelgbiombaaSpec36f
import Derived.Test.YtijinelgbiombaaArgs36
set_option linter.unusedSimpArgs false
set_option linter.unusedVariables false
namespace Go.Proofs.Ytijinelgbiombaa
open Go.ChangeShapes Go.WideShapes Go.ChangeAt Go.RowKit Go.Pel
attribute [local go_sem ↓] equal_ask0
theorem enc_ok (x : Pel.Ask) (hf : x.Fits) (h : x.chk = 0) (W : World) :
    Calls Try.prog 10 #[.agg #[.int .u8 (x).k, .int .i64 (x).i, .int .i64 (x).a, .int .i64 (x).b, .int .i64 (x).j, .int .i64 (x).n, .int .i64 (x).d]] W fun e w' => ∃ A c, e = .returned (.tuple #[.slice A x.bytes.length c, .int .i64 0]) ∧ ∃ y, w' = ext W y ∧ Own (ext W y) W.heap.size 5 1 A x.bytes.length c (vb x.bytes) := by
  obtain ⟨⟨u1, u2⟩, ⟨u3, u4⟩, ⟨u5, u6⟩, ⟨u7, u8⟩, ⟨u9, u10⟩, ⟨u11, u12⟩, ⟨u13, u14⟩⟩ := hf
  have e1 : encBytes x.k x.i x.a x.b x.j x.n x.d = x.bytes := encBytes_yes h
  have e2 : askChk x.k x.i x.a x.b x.j x.n x.d = 0 := h
  have hq := encode_any x.k x.i x.a x.b x.j x.n x.d W (by omega) (by omega) (by omega) (by omega) (by omega) (by omega)
  rw [e1, e2] at hq
  exact hq
theorem enc_no (x : Pel.Ask) (hf : x.Fits) (h : x.chk = 8) (W : World) :
    Calls Try.prog 10 #[.agg #[.int .u8 (x).k, .int .i64 (x).i, .int .i64 (x).a, .int .i64 (x).b, .int .i64 (x).j, .int .i64 (x).n, .int .i64 (x).d]] W fun e w' => ∃ A c, e = .returned (.tuple #[.slice A 0 c, .int .i64 8]) ∧ ∃ y, w' = ext W y := by
  obtain ⟨⟨u1, u2⟩, ⟨u3, u4⟩, ⟨u5, u6⟩, ⟨u7, u8⟩, ⟨u9, u10⟩, ⟨u11, u12⟩, ⟨u13, u14⟩⟩ := hf
  have e1 : encBytes x.k x.i x.a x.b x.j x.n x.d = [] := encBytes_no h
  have e2 : askChk x.k x.i x.a x.b x.j x.n x.d = 8 := h
  have hq := encode_any x.k x.i x.a x.b x.j x.n x.d W (by omega) (by omega) (by omega) (by omega) (by omega) (by omega)
  rw [e1, e2] at hq
  refine hq.mono ?_
  rintro e _ ⟨A, c, rfl, y, rfl, _⟩
  exact ⟨A, c, rfl, y, rfl⟩
theorem chk_lit (x : Pel.Ask) (hf : x.Fits) (v : Int) (h : x.chk = v) (W : World) : Calls Try.prog 14 #[.agg #[.int .u8 (x).k, .int .i64 (x).i, .int .i64 (x).a, .int .i64 (x).b, .int .i64 (x).j, .int .i64 (x).n, .int .i64 (x).d]] W fun e w' => e = .returned (.int .i64 v) ∧ ∃ y, w' = ext W y := by
  subst h
  exact decCheck_any x.k x.i x.a x.b x.j x.n x.d W hf.n hf.d
theorem refchk_lit (x : Pel.Ask) (hf : x.Fits) (v : Int) (h : x.chk = v) (W : World) : Calls Try.prog 15 #[.agg #[.int .u8 (x).k, .int .i64 (x).i, .int .i64 (x).a, .int .i64 (x).b, .int .i64 (x).j, .int .i64 (x).n, .int .i64 (x).d]] W fun e w' => e = .returned (.int .i64 v) ∧ ∃ y, w' = ext W y := by
  subst h
  exact ref36Check_any x.k x.i x.a x.b x.j x.n x.d W hf.n hf.d
theorem dec_lit (l : List UInt8) (x : Pel.Ask) (n : Nat) (v : Int) (hl : l.length ≤ 1000000) (h1 : decAsk l = x) (h2 : decLen l = n) (h3 : decErr l = v) (A : Option Addr) (c k : Nat) (W : World) (hk : k = l.length) (hs : Sl W 1 A k c (vb l)) :
    Calls Try.prog 12 #[.slice A k c] W fun e w' => e = .returned (.tuple #[.agg #[.int .u8 (x).k, .int .i64 (x).i, .int .i64 (x).a, .int .i64 (x).b, .int .i64 (x).j, .int .i64 (x).n, .int .i64 (x).d], .int .i64 n, .int .i64 v]) ∧ ∃ y, w' = ext W y := by
  subst h1 h2 h3 hk
  exact decode_any A c l W hs hl
set_option maxRecDepth 10000 in
set_option maxHeartbeats 4000000 in
theorem back_walk (x : Pel.Ask) (hf : x.Fits) (A : Option Addr) (c : Nat) (l : List UInt8) (w : World) (hs : Sl w 1 A l.length c (vb l)) (hn : A = none → c = 0) :
    Calls Try.prog 4 #[.agg #[.int .u8 (x).k, .int .i64 (x).i, .int .i64 (x).a, .int .i64 (x).b, .int .i64 (x).j, .int .i64 (x).n, .int .i64 (x).d], .slice A l.length c] w fun e w' => e = .returned (.bool true) ∧ ∃ x, w' = ext w x := by
  have HF := Lib.hid hf; clear hf
  by_cases hl : 1000 < l.length
  · go_enter Try.func4, Try.ntmps4
    go_wp2_with ((go_at_call 16; refine (alive_any _).mono ?_; rintro e _ ⟨rfl, nx, rfl⟩))
    (go_ret; exact ⟨ret_bool (by rfl), ext_of (by (try simp only [ext_ext]); repeat (first | exact Bel.refl _ | refine bel_and ?_ _ | refine bel_drews ?_ _ | refine Bel.ext ?_ _ | refine Bel.alloc ?_ _ | refine Bel.drewN ?_ _))⟩)
  have HS := Lib.hid hs
  rcases chk_cases x with h0 | h0
  · obtain ⟨xb, hxb⟩ : ∃ l, x.bytes = l := ⟨_, rfl⟩
    have hb := bytes_pos x
    rw [hxb] at hb
    have b1 : ¬ (xb.length : Int) < 1 := by omega
    have b2 : ¬ 9 < (xb.length : Int) := by omega
    have fb := first_bytes h0 l
    have fp := first_part (x := x)
    rw [hxb] at fb fp
    have dl : (xb ++ l).length ≤ 1100 := by rw [List.length_append]; omega
    have d1 := dec_some dl (by rw [fb.2.2]; omega)
    have d2 := dec_none (l := xb.take (xb.length - 1)) (by rw [List.length_take]; omega) fp
    have e1 := Lib.hid (enc_ok x HF.out h0)
    rw [hxb] at e1
    have e2 := Lib.hid (refchk_lit x HF.out 0 h0)
    have e3 := Lib.hid (dec_lit (xb ++ l) x xb.length 0 (by omega) (d1.1.trans fb.2.1) (d1.2.1.trans fb.2.2) d1.2.2)
    have e4 := Lib.hid (dec_lit (xb.take (xb.length - 1)) Ask.zero 0 12 (by rw [List.length_take]; omega) d2.1 d2.2.1 d2.2.2)
    have heq := eqA_yes x
    clear fb fp d1 d2 dl h0 hxb
    go_enter Try.func4, Try.ntmps4
    go_wp2_with ((go_at_call 16; refine (alive_any _).mono ?_; rintro e _ ⟨rfl, nx, rfl⟩))
    refine (e1.out _).mono ?_
    rintro e _ ⟨A5, c5, rfl, x5, rfl, own5⟩
    have cap5 := own5.cap
    go_wp2_with fail
    refine (e2.out _).mono ?_
    rintro e _ ⟨rfl, x6, rfl⟩
    go_wp2_with (first | (at_builtin; (try refine wpList_unguard rfl (by first | rfl | simp [yielded]) ?_); refine append_new slt_bytes (by (try simp only [ext_ext]); repeat (first | exact Bel.refl _ | refine bel_and ?_ _ | refine bel_drews ?_ _ | refine Bel.ext ?_ _ | refine Bel.alloc ?_ _ | refine Bel.drewN ?_ _)) (own5.sl) (by (try simp only [ext_ext]); repeat (first | exact Bel.refl _ | refine bel_and ?_ _ | refine bel_drews ?_ _ | refine Bel.ext ?_ _ | refine Bel.alloc ?_ _ | refine Bel.drewN ?_ _)) (vb_one _) (own5.nilc) (by omega) rfl _ _ rfl rfl rfl (by simp [go_sem]) ?_; rintro A1 c1 y1 hown1) | (at_builtin; (try refine wpList_unguard rfl (by first | rfl | simp [yielded]) ?_); refine append_any slt_bytes (by (try simp only [ext_ext]); repeat (first | exact Bel.refl _ | refine bel_and ?_ _ | refine bel_drews ?_ _ | refine Bel.ext ?_ _ | refine Bel.alloc ?_ _ | refine Bel.drewN ?_ _)) hown1 (by (try simp only [ext_ext]); repeat (first | exact Bel.refl _ | refine bel_and ?_ _ | refine bel_drews ?_ _ | refine Bel.ext ?_ _ | refine Bel.alloc ?_ _ | refine Bel.drewN ?_ _)) (HS.out) (by (try simp only [ext_ext]); repeat (first | exact Bel.refl _ | refine bel_and ?_ _ | refine bel_drews ?_ _ | refine Bel.ext ?_ _ | refine Bel.alloc ?_ _ | refine Bel.drewN ?_ _)) (vb_one _) (hn) (by omega) rfl _ _ rfl rfl rfl ?_; rintro A2 c2 y2 hown2))
    refine (e3.out _ _ _ _ (by simp) (by rw [vb_append]; exact hown2.sl.bel (by (try simp only [ext_ext]); repeat (first | exact Bel.refl _ | refine bel_and ?_ _ | refine bel_drews ?_ _ | refine Bel.ext ?_ _ | refine Bel.alloc ?_ _ | refine Bel.drewN ?_ _)))).mono ?_
    rintro e _ ⟨rfl, x7, rfl⟩
    go_wp2_with fail
    refine (e4.out _ _ _ _ (by rw [List.length_take]; omega) (by have h := own5.sl.take (k := xb.length - 1) (by omega); rw [Nat.mul_one] at h; rw [show vb (xb.take (xb.length - 1)) = (vb xb).take (xb.length - 1) by simp [vb]]; exact h.bel (by (try simp only [ext_ext]); repeat (first | exact Bel.refl _ | refine bel_and ?_ _ | refine bel_drews ?_ _ | refine Bel.ext ?_ _ | refine Bel.alloc ?_ _ | refine Bel.drewN ?_ _)))).mono ?_
    rintro e _ ⟨rfl, x8', rfl⟩
    simp only [Ask.zero]
    go_wp2_with fail
    cases hok : firstOk l
    · have d3 := dec_none (l := l) (by omega) (firstLen_no hok)
      have e5 := Lib.hid (dec_lit l Ask.zero 0 12 (by omega) d3.1 d3.2.1 d3.2.2)
      have hz : eqA 0 0 0 0 0 0 0 0 0 0 0 0 0 0 = true := by decide
      clear d3 hok
      refine (e5.out _ _ _ _ rfl (HS.out.bel (by (try simp only [ext_ext]); repeat (first | exact Bel.refl _ | refine bel_and ?_ _ | refine bel_drews ?_ _ | refine Bel.ext ?_ _ | refine Bel.alloc ?_ _ | refine Bel.drewN ?_ _)))).mono ?_
      rintro e _ ⟨rfl, x8, rfl⟩
      simp only [Ask.zero]
      go_wp2
      (go_ret; exact ⟨ret_bool (by rfl), ext_of (by (try simp only [ext_ext]); repeat (first | exact Bel.refl _ | refine bel_and ?_ _ | refine bel_drews ?_ _ | refine Bel.ext ?_ _ | refine Bel.alloc ?_ _ | refine Bel.drewN ?_ _))⟩)
    · have hp := askLen_pos (plainAsk l).k
      have d3 := dec_some (l := l) (by omega) (by rw [firstLen_yes hok]; omega)
      obtain ⟨hlen, hc⟩ := firstOk_len hok
      have hby := bytes_first hok
      rw [firstAsk_yes hok, firstLen_yes hok] at d3
      have e5 := Lib.hid (dec_lit l (plainAsk l) _ 0 (by omega) d3.1 d3.2.1 d3.2.2)
      have hfy := fits_of_chk hc
      have e6 := Lib.hid (enc_ok (plainAsk l) hfy hc)
      have e7 := Lib.hid (chk_lit (plainAsk l) hfy 0 hc)
      rw [hby] at e6
      clear d3 hok hfy hc hby
      generalize plainAsk l = y at *
      obtain ⟨m, hm⟩ : ∃ m, askLen y.k = m := ⟨_, rfl⟩
      rw [hm] at e5 e6 hp hlen
      have ht : (l.take m).length = m := by rw [List.length_take]; omega
      rw [ht] at e6
      clear hm ht
      have m1 : 1 ≤ (m : Int) := by omega
      have m2 : (m : Int) ≤ (l.length : Int) := by omega
      have m3 : (m : Int) ≤ (c : Int) := by have := HS.out.cap; omega
      have m4 : m ≤ c := by omega
      refine (e5.out _ _ _ _ rfl (HS.out.bel (by (try simp only [ext_ext]); repeat (first | exact Bel.refl _ | refine bel_and ?_ _ | refine bel_drews ?_ _ | refine Bel.ext ?_ _ | refine Bel.alloc ?_ _ | refine Bel.drewN ?_ _)))).mono ?_
      rintro e _ ⟨rfl, x8, rfl⟩
      go_wp2_with fail
      refine (e6.out _).mono ?_
      rintro e _ ⟨A9, c9, rfl, x9, rfl, own9⟩
      go_wp2
      refine wp_have1 (fun W' => (convert 28 9 (.slice A9 m c9)).run Try.prog W' = .ok (.string ⟨(l.take m).toArray⟩) W') (fun x => conv_own own9 (by (try simp only [ext_ext]); repeat (first | exact Bel.refl _ | refine bel_and ?_ _ | refine bel_drews ?_ _ | refine Bel.ext ?_ _ | refine Bel.alloc ?_ _ | refine Bel.drewN ?_ _)) Try.underlying28 Try.underlying5 Try.underlying9) ?_
      intro cv9
      refine wp_have1 (fun W' => (convert 28 9 (.slice A m c)).run Try.prog W' = .ok (.string ⟨(l.take m).toArray⟩) W') (fun x => conv_any (by have h := HS.out.take hlen; rw [Nat.mul_one] at h; rwa [show (vb l).take m = vb (l.take m) by simp [vb]] at h) hn (by (try simp only [ext_ext]); repeat (first | exact Bel.refl _ | refine bel_and ?_ _ | refine bel_drews ?_ _ | refine Bel.ext ?_ _ | refine Bel.alloc ?_ _ | refine Bel.drewN ?_ _)) Try.underlying28 Try.underlying5 Try.underlying9) ?_
      intro cv8
      ((first | refine RegC.wp_region_ext1 (by kernel_rfl) (by kernel_rfl) ?_ | refine RegC.wp_region_ext0 (by kernel_rfl) (by kernel_rfl) ?_); (repeat (any_goals (first | go_big_quiet_step ((go_at_call 14; first | exact Calls.ext_of1 (e7.out _) | exact Calls.ext_of (e7.out _))) | (refine RegC.wpQuiet_split rfl rfl (fun hb => ?_) (fun hb => ?_) <;> simp only [hb])))); all_goals (refine wpQuiet_nil ?_; rintro _ ⟨nq, rfl⟩))
      go_wp2
      (go_ret; exact ⟨ret_bool (by simp), ext_of (by (try simp only [ext_ext]); repeat (first | exact Bel.refl _ | refine bel_and ?_ _ | refine bel_drews ?_ _ | refine Bel.ext ?_ _ | refine Bel.alloc ?_ _ | refine Bel.drewN ?_ _))⟩)
  · have e1 := Lib.hid (enc_no x HF.out h0)
    have e2 := Lib.hid (refchk_lit x HF.out 8 h0)
    clear h0
    go_enter Try.func4, Try.ntmps4
    go_wp2_with ((go_at_call 16; refine (alive_any _).mono ?_; rintro e _ ⟨rfl, nx, rfl⟩))
    refine (e1.out _).mono ?_
    rintro e _ ⟨A5, c5, rfl, x5, rfl⟩
    go_wp2_with fail
    refine (e2.out _).mono ?_
    rintro e _ ⟨rfl, x6, rfl⟩
    go_wp2_with fail
    cases hok : firstOk l
    · have d3 := dec_none (l := l) (by omega) (firstLen_no hok)
      have e5 := Lib.hid (dec_lit l Ask.zero 0 12 (by omega) d3.1 d3.2.1 d3.2.2)
      have hz : eqA 0 0 0 0 0 0 0 0 0 0 0 0 0 0 = true := by decide
      clear d3 hok
      refine (e5.out _ _ _ _ rfl (HS.out.bel (by (try simp only [ext_ext]); repeat (first | exact Bel.refl _ | refine bel_and ?_ _ | refine bel_drews ?_ _ | refine Bel.ext ?_ _ | refine Bel.alloc ?_ _ | refine Bel.drewN ?_ _)))).mono ?_
      rintro e _ ⟨rfl, x8, rfl⟩
      simp only [Ask.zero]
      go_wp2
      (go_ret; exact ⟨ret_bool (by rfl), ext_of (by (try simp only [ext_ext]); repeat (first | exact Bel.refl _ | refine bel_and ?_ _ | refine bel_drews ?_ _ | refine Bel.ext ?_ _ | refine Bel.alloc ?_ _ | refine Bel.drewN ?_ _))⟩)
    · have hp := askLen_pos (plainAsk l).k
      have d3 := dec_some (l := l) (by omega) (by rw [firstLen_yes hok]; omega)
      obtain ⟨hlen, hc⟩ := firstOk_len hok
      have hby := bytes_first hok
      rw [firstAsk_yes hok, firstLen_yes hok] at d3
      have e5 := Lib.hid (dec_lit l (plainAsk l) _ 0 (by omega) d3.1 d3.2.1 d3.2.2)
      have hfy := fits_of_chk hc
      have e6 := Lib.hid (enc_ok (plainAsk l) hfy hc)
      have e7 := Lib.hid (chk_lit (plainAsk l) hfy 0 hc)
      rw [hby] at e6
      clear d3 hok hfy hc hby
      generalize plainAsk l = y at *
      obtain ⟨m, hm⟩ : ∃ m, askLen y.k = m := ⟨_, rfl⟩
      rw [hm] at e5 e6 hp hlen
      have ht : (l.take m).length = m := by rw [List.length_take]; omega
      rw [ht] at e6
      clear hm ht
      have m1 : 1 ≤ (m : Int) := by omega
      have m2 : (m : Int) ≤ (l.length : Int) := by omega
      have m3 : (m : Int) ≤ (c : Int) := by have := HS.out.cap; omega
      have m4 : m ≤ c := by omega
      refine (e5.out _ _ _ _ rfl (HS.out.bel (by (try simp only [ext_ext]); repeat (first | exact Bel.refl _ | refine bel_and ?_ _ | refine bel_drews ?_ _ | refine Bel.ext ?_ _ | refine Bel.alloc ?_ _ | refine Bel.drewN ?_ _)))).mono ?_
      rintro e _ ⟨rfl, x8, rfl⟩
      go_wp2_with fail
      refine (e6.out _).mono ?_
      rintro e _ ⟨A9, c9, rfl, x9, rfl, own9⟩
      go_wp2
      refine wp_have1 (fun W' => (convert 28 9 (.slice A9 m c9)).run Try.prog W' = .ok (.string ⟨(l.take m).toArray⟩) W') (fun x => conv_own own9 (by (try simp only [ext_ext]); repeat (first | exact Bel.refl _ | refine bel_and ?_ _ | refine bel_drews ?_ _ | refine Bel.ext ?_ _ | refine Bel.alloc ?_ _ | refine Bel.drewN ?_ _)) Try.underlying28 Try.underlying5 Try.underlying9) ?_
      intro cv9
      refine wp_have1 (fun W' => (convert 28 9 (.slice A m c)).run Try.prog W' = .ok (.string ⟨(l.take m).toArray⟩) W') (fun x => conv_any (by have h := HS.out.take hlen; rw [Nat.mul_one] at h; rwa [show (vb l).take m = vb (l.take m) by simp [vb]] at h) hn (by (try simp only [ext_ext]); repeat (first | exact Bel.refl _ | refine bel_and ?_ _ | refine bel_drews ?_ _ | refine Bel.ext ?_ _ | refine Bel.alloc ?_ _ | refine Bel.drewN ?_ _)) Try.underlying28 Try.underlying5 Try.underlying9) ?_
      intro cv8
      ((first | refine RegC.wp_region_ext1 (by kernel_rfl) (by kernel_rfl) ?_ | refine RegC.wp_region_ext0 (by kernel_rfl) (by kernel_rfl) ?_); (repeat (any_goals (first | go_big_quiet_step ((go_at_call 14; first | exact Calls.ext_of1 (e7.out _) | exact Calls.ext_of (e7.out _))) | (refine RegC.wpQuiet_split rfl rfl (fun hb => ?_) (fun hb => ?_) <;> simp only [hb])))); all_goals (refine wpQuiet_nil ?_; rintro _ ⟨nq, rfl⟩))
      go_wp2
      (go_ret; exact ⟨ret_bool (by simp), ext_of (by (try simp only [ext_ext]); repeat (first | exact Bel.refl _ | refine bel_and ?_ _ | refine bel_drews ?_ _ | refine Bel.ext ?_ _ | refine Bel.alloc ?_ _ | refine Bel.drewN ?_ _))⟩)
set_option maxRecDepth 100000 in
theorem decodeBack_lifted (os : Os) (started : os.Started) (H : Type) (enc : TypeId × Value → H) :
    ReturnsInHanded {} Try.checked os 4 .any (Rows.decodeBackSpec.pre6 enc Try.prog Try.f4 Rows.decodeBackRow.domain false) (Rows.decodeBackSpec.post enc Try.prog Try.f4 false true false false) := by
  refine returnsInHanded_of_change (C := Try.checked) ownKnob_ started (by kernel_rfl) Try.func4
    (ChangeSpec.witness6 (enc := enc) (C := Try.checked) false ⟨#[], #[.agg #[.int .u8 0, .int .i64 0, .int .i64 0, .int .i64 0, .int .i64 0, .int .i64 0, .int .i64 0], .slice none 0 0], []⟩ 8 (by kernel_rfl) (by kernel_rfl) (by kernel_rfl) (by kernel_rfl)) ?_
  intro W base args ds gs before hval0 hW hcnd _
  have hval : ∀ (j : Nat) t v, Try.f4.params[j]? = some t → args[j]? = some v → Value.okWide Try.prog W .any base t v := hval0
  have hW' := hW
  obtain ⟨p, q, hA0, hV, rfl, hfz, hnd⟩ := hW
  have hA : DataW.TrodAll enc Try.prog W 0 (fun _ => true) true Try.f4.params.toList args.toList ds p := hA0
  rw [Try.params4] at hA hval
  obtain ⟨v0, vs0, d0, ds0, p0, q0, hargs, rfl, rfl, h0, r0⟩ := trodAll_cons hA
  obtain ⟨v1, vs1, d1, ds1, p1, q1, rfl, rfl, rfl, h1, r1⟩ := trodAll_cons r0
  obtain ⟨rfl, rfl, rfl⟩ := trodAll_nil r1
  obtain rfl : args = #[v0, v1] := by cases args; simp_all
  obtain ⟨rfl, rfl⟩ := trodVars_none hV
  have k0_ := h0
  have lt0 : ∀ x ∈ p0, x.block < W.heap.size := by obtain ⟨m, hm⟩ := k0_; exact DataW.trod_lt m _ _ _ hm
  have k1_ := h1
  have lt1 : ∀ x ∈ p1, x.block < W.heap.size := by obtain ⟨m, hm⟩ := k1_; exact DataW.trod_lt m _ _ _ hm
  obtain ⟨cs0, rfl, hsz0⟩ := okWide_struct Try.underlying27 (hval 0 27 v0 rfl rfl)
  obtain ⟨l0⟩ := cs0
  obtain ⟨fuel0, hf0⟩ := h0
  obtain ⟨k0, i0, a0, b0, j0, n0, d0, rfl, hask0⟩ := ask_cells hf0 (by rw [cells_ask] at hsz0; exact hsz0)
  obtain ⟨A1, n1, c1, rfl⟩ := okWide_slice Try.underlying28 (hval 1 28 v1 rfl rfl)
  obtain ⟨fuel1, hf1⟩ := h1
  have hnil1 := arg_nil Try.underlying28 hf1
  obtain ⟨l1, rfl, hsl1⟩ := arg_bytes Try.underlying28 Try.underlying5 cells_u8 hf1
  clear hA0 hval0
  refine (back_walk ⟨k0, i0, a0, b0, j0, n0, d0⟩ ⟨hask0.k, hask0.i, hask0.a, hask0.b, hask0.j, hask0.n, hask0.d⟩ A1 c1 l1 W hsl1 hnil1).mono fun e W' ⟨he, hx⟩ => ?_
  have bel : Below W.heap.size W W' := bel_of hx
  subst he
  exact ⟨_, rfl, _, _, _, [], _, [], hW', trodAll_mk1 (shut_bool Try.underlying4 _), (trodAll_cons_mk (Below.trod laidOut_ (by kernel_rfl) (of_decide_eq_true (by kernel_rfl)) k0_ bel lt0) (trodAll_cons_mk (Below.trod laidOut_ (by kernel_rfl) (of_decide_eq_true (by kernel_rfl)) k1_ bel lt1) trodAll_mk0)), rfl, bel.frame _, fun h => by cases h⟩
theorem decodeBack_over : Rows.decodeBackRow.holds Try.pinned (OpenSpec.ofChange Rows.decodeBackSpec) :=
  OpenClaim.holds_of_wide 4 Try.f4 rfl rfl rfl rfl rfl rfl rfl ⟨rfl, rfl, rfl, rfl, rfl⟩ rfl rfl rfl rfl rfl (by kernel_rfl) Try.func4 (by kernel_rfl)
    (of_decide_eq_true (by kernel_rfl)) (by unfold Func.isWrapper; rw [if_neg (of_decide_eq_false (by kernel_rfl))]; exact ⟨rfl, rfl⟩)
    (fun os started H enc _ => decodeBack_lifted os started H enc)
/-- The statement. -/
theorem decodeBack_holds : Rows.DecodeBackSaid := decodeBack_over
end Go.Proofs.Ytijinelgbiombaa
