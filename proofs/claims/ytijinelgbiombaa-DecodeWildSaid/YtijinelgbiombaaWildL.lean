/- For every list of asks and all bytes: all wild asks are valid, those of what Write gives are the asks, and there is one for each 9 bytes at least: the statement DecodeWild. No condition. -/
import Derived.Test.YtijinelgbiombaaDec35
import Derived.Test.YtijinelgbiombaaDec18
import Derived.Test.YtijinelgbiombaaSpec36g
import Derived.Test.YtijinelgbiombaaArgs36
set_option linter.unusedSimpArgs false
set_option linter.unusedVariables false
namespace Go.Proofs.Ytijinelgbiombaa
open Go.ChangeShapes Go.WideShapes Go.ChangeAt Go.RowKit Go.Pel
theorem wr_lit (m : List Pel.Ask) (hin : ∀ x ∈ m, x.Fits) (b : List UInt8) (h : wr m = (b, 0)) (A : Option Addr) (c : Nat) (W : World) (hs : Sl W 7 A m.length c (va m)) :
    Calls Try.prog 17 #[.slice A m.length c] W fun e w' => ∃ A' c', e = .returned (.tuple #[.slice A' b.length c', .int .i64 0]) ∧ ∃ y, w' = ext W y ∧ Own (ext W y) W.heap.size 5 1 A' b.length c' (vb b) := by
  have hq := write_any A c m W hs hin
  rw [h] at hq
  exact hq
theorem wr_no (m : List Pel.Ask) (hin : ∀ x ∈ m, x.Fits) (h : wr m = ([], 8)) (A : Option Addr) (c : Nat) (W : World) (hs : Sl W 7 A m.length c (va m)) :
    Calls Try.prog 17 #[.slice A m.length c] W fun e w' => ∃ A' c', e = .returned (.tuple #[.slice A' 0 c', .int .i64 8]) ∧ ∃ y, w' = ext W y := by
  have hq := write_any A c m W hs hin
  rw [h] at hq
  refine hq.mono ?_
  rintro e _ ⟨A', c', rfl, y, rfl, _⟩
  exact ⟨A', c', rfl, y, rfl⟩
theorem chk_lit (x : Pel.Ask) (hf : x.Fits) (v : Int) (h : x.chk = v) (W : World) : Calls Try.prog 14 #[.agg #[.int .u8 (x).k, .int .i64 (x).i, .int .i64 (x).a, .int .i64 (x).b, .int .i64 (x).j, .int .i64 (x).n, .int .i64 (x).d]] W fun e w' => e = .returned (.int .i64 v) ∧ ∃ y, w' = ext W y := by
  subst h
  exact decCheck_any x.k x.i x.a x.b x.j x.n x.d W hf.n hf.d
theorem point_lit (i a b v : Int) (h : pointChk i a b = v) (W : World) : Calls Try.prog 27 #[.agg #[.int .i64 i, .int .i64 a, .int .i64 b]] W fun e w' => e = .returned (.int .i64 v) ∧ ∃ y, w' = ext W y := by
  subst h; exact courseCheck_any i a b W
theorem asked_lit (n d v : Int) (h1 : -9223372036854775808 ≤ n ∧ n ≤ 9223372036854775807) (h2 : -9223372036854775808 ≤ d ∧ d ≤ 9223372036854775807) (h : ratioAsked n d = v) (W : World) : Calls Try.prog 28 #[.agg #[.int .i64 n, .int .i64 d]] W fun e w' => e = .returned (.int .i64 v) ∧ ∃ y, w' = ext W y := by
  subst h; exact ratioAsked_any n d W h1 h2
set_option maxRecDepth 10000 in
set_option maxHeartbeats 8000000 in
theorem wildLaw_walk (l : List Pel.Ask) (hl : ∀ x ∈ l, x.Fits) (b : List UInt8) (A B : Option Addr) (c d : Nat) (w : World) (hs : Sl w 7 A l.length c (va l)) (hsB : Sl w 1 B b.length d (vb b)) (hnB : B = none → d = 0) :
    Calls Try.prog 8 #[.slice A l.length c, .slice B b.length d] w fun e w' => e = .returned (.bool true) ∧ ∃ x, w' = ext w x := by
  have HL := Lib.hid hl; clear hl
  by_cases g1 : 60 < l.length
  · go_enter Try.func8, Try.ntmps8
    go_wp2_with ((go_at_call 16; refine (alive_any _).mono ?_; rintro e _ ⟨rfl, nx, rfl⟩))
    (go_ret; exact ⟨ret_bool (by rfl), ext_of (by (try simp only [ext_ext]); repeat (first | exact Bel.refl _ | refine bel_and ?_ _ | refine bel_drews ?_ _ | refine Bel.ext ?_ _ | refine Bel.alloc ?_ _ | refine Bel.drewN ?_ _))⟩)
  by_cases g3 : 1100 < b.length
  · go_enter Try.func8, Try.ntmps8
    go_wp2_with ((go_at_call 16; refine (alive_any _).mono ?_; rintro e _ ⟨rfl, nx, rfl⟩))
    (go_ret; exact ⟨ret_bool (by rfl), ext_of (by (try simp only [ext_ext]); repeat (first | exact Bel.refl _ | refine bel_and ?_ _ | refine bel_drews ?_ _ | refine Bel.ext ?_ _ | refine Bel.alloc ?_ _ | refine Bel.drewN ?_ _))⟩)
  have HS := Lib.hid hs
  have HB := Lib.hid hsB
  have e5 := Lib.hid (fun W h => wild_any B d b W h hnB (by omega))
  have hml := wl_len b
  have h9 := wl_nine (l := b) (by omega)
  have hchk := Lib.hid (wl_chk b)
  rw [wl_ok (l := b) (by omega)] at e5
  simp only at e5
  generalize (wl b).1 = m at *
  have k120 : ¬ 120 < m.length := by omega
  rcases wr_err (l := l) (by omega) with h0 | h0
  · obtain ⟨_, hc1, hw1⟩ := wr_zero h0
    have e1 := Lib.hid (wr_lit l HL.out _ hw1)
    have hk1 := cat_len l
    have e2 := Lib.hid (wl_cat hc1 (by omega) (by omega))
    clear h0 hc1 hw1
    generalize cat l = cl at *
    go_enter Try.func8, Try.ntmps8
    go_wp2_with ((go_at_call 16; refine (alive_any _).mono ?_; rintro e _ ⟨rfl, nx, rfl⟩))
    refine (e1.out _ _ _ (HS.out.bel (by (try simp only [ext_ext]); repeat (first | exact Bel.refl _ | refine bel_and ?_ _ | refine bel_drews ?_ _ | refine Bel.ext ?_ _ | refine Bel.alloc ?_ _ | refine Bel.drewN ?_ _)))).mono ?_
    rintro e _ ⟨A5, c5, rfl, x5, rfl, own5⟩
    go_wp2_with fail
    refine (wildL_yes _ _ _ _ cl l _ (own5.sl.bel (by (try simp only [ext_ext]); repeat (first | exact Bel.refl _ | refine bel_and ?_ _ | refine bel_drews ?_ _ | refine Bel.ext ?_ _ | refine Bel.alloc ?_ _ | refine Bel.drewN ?_ _))) own5.nilc (by omega) (HS.out.bel (by (try simp only [ext_ext]); repeat (first | exact Bel.refl _ | refine bel_and ?_ _ | refine bel_drews ?_ _ | refine Bel.ext ?_ _ | refine Bel.alloc ?_ _ | refine Bel.drewN ?_ _))) (by omega) e2.out).mono ?_
    rintro e _ ⟨rfl, x6, rfl⟩
    go_wp2_with fail
    refine (e5.out _ (HB.out.bel (by (try simp only [ext_ext]); repeat (first | exact Bel.refl _ | refine bel_and ?_ _ | refine bel_drews ?_ _ | refine Bel.ext ?_ _ | refine Bel.alloc ?_ _ | refine Bel.drewN ?_ _)))).mono ?_
    rintro e _ ⟨A8, c8, rfl, x8, rfl, own8⟩
    simp only [ext_ext]
    have s8 := own8.sl
    simp only [ext_ext] at s8
    obtain ⟨W2, hW⟩ : ∃ W2, ext w (((nx.and x5).and x6).and x8) = W2 := ⟨_, rfl⟩
    rw [hW] at s8 ⊢
    have hb : Bel w W2 := by rw [← hW]; exact bel_ext _ _
    clear hW own8
    by_cases h120 : m.length < 120
    · have hn := h9 h120
      have f1 : ¬ 9 * (m.length : Int) < (b.length : Int) := by omega
      go_wp2
      go_loopw [10] (fun i wr' => ∃ (k : Nat) (y : Beyond), k ≤ m.length ∧ i = .int .i64 k ∧ wr' = ext W2 y) (fun i _ => m.length - (intOf i).toNat)
      case atStart => obtain ⟨y, hy⟩ := ext_of (Bel.refl W2); exact ⟨0, y, Nat.zero_le _, rfl, hy⟩
      case round =>
        obtain ⟨k, y, hk, rfl, rfl⟩ := hrel
        by_cases hlt : k < m.length
        · obtain ⟨x, hx⟩ : ∃ x, m[k]? = some x := ⟨_, List.getElem?_eq_getElem hlt⟩
          obtain ⟨b', o, rfl, hb'⟩ := s8.at_ (by omega)
          obtain ⟨r0, r1, r2, r3, r4, r5, r6⟩ := ask_at s8 hx
          have hc := hchk.out x (List.mem_of_getElem? hx)
          have hf := fits_of_chk hc
          have e7 := Lib.hid (chk_lit x hf 0 hc)
          have hkr := chk_kind hc
          have hkk : (x.k = 1 ∨ x.k = 3) ∨ x.k = 4 ∨ (x.k = 2 ∨ x.k = 5 ∨ x.k = 6) := by omega
          have HX := Lib.hid hx
          clear hx
          rcases hkk with h | h | h
          · have e8 := Lib.hid (point_lit x.i x.a x.b 0 (chk_point hc h))
            clear hc hf
            rcases h with h | h
            all_goals (
              rw [h] at r0 e7
              go_wp2_with (first | (go_at_call 14; refine (e7.out _).mono ?_; rintro e _ ⟨rfl, nx, rfl⟩) | (go_at_call 27; refine (e8.out _).mono ?_; rintro e _ ⟨rfl, nx, rfl⟩))
              go_roundw
              case rel => exact ⟨k + 1, _, by omega, by go_num, rfl⟩
              case measure => (first | (simp [intOf]; done) | (simp [intOf]; omega)))
          · have e8 := Lib.hid (asked_lit x.n x.d 0 hf.n hf.d (chk_time hc h))
            clear hc hf
            rw [h] at r0 e7
            go_wp2_with (first | (go_at_call 14; refine (e7.out _).mono ?_; rintro e _ ⟨rfl, nx, rfl⟩) | (go_at_call 28; refine (e8.out _).mono ?_; rintro e _ ⟨rfl, nx, rfl⟩))
            go_roundw
            case rel => exact ⟨k + 1, _, by omega, by go_num, rfl⟩
            case measure => (first | (simp [intOf]; done) | (simp [intOf]; omega))
          · clear hc hf
            rcases h with h | h | h
            all_goals (
              rw [h] at r0 e7
              go_wp2_with (first | (go_at_call 14; refine (e7.out _).mono ?_; rintro e _ ⟨rfl, nx, rfl⟩))
              go_roundw
              case rel => exact ⟨k + 1, _, by omega, by go_num, rfl⟩
              case measure => (first | (simp [intOf]; done) | (simp [intOf]; omega)))
        · go_wp2
          go_ret
          exact ⟨ret_bool rfl, ext_of (hb.ext _)⟩
    · go_wp2
      go_loopw [10] (fun i wr' => ∃ (k : Nat) (y : Beyond), k ≤ m.length ∧ i = .int .i64 k ∧ wr' = ext W2 y) (fun i _ => m.length - (intOf i).toNat)
      case atStart => obtain ⟨y, hy⟩ := ext_of (Bel.refl W2); exact ⟨0, y, Nat.zero_le _, rfl, hy⟩
      case round =>
        obtain ⟨k, y, hk, rfl, rfl⟩ := hrel
        by_cases hlt : k < m.length
        · obtain ⟨x, hx⟩ : ∃ x, m[k]? = some x := ⟨_, List.getElem?_eq_getElem hlt⟩
          obtain ⟨b', o, rfl, hb'⟩ := s8.at_ (by omega)
          obtain ⟨r0, r1, r2, r3, r4, r5, r6⟩ := ask_at s8 hx
          have hc := hchk.out x (List.mem_of_getElem? hx)
          have hf := fits_of_chk hc
          have e7 := Lib.hid (chk_lit x hf 0 hc)
          have hkr := chk_kind hc
          have hkk : (x.k = 1 ∨ x.k = 3) ∨ x.k = 4 ∨ (x.k = 2 ∨ x.k = 5 ∨ x.k = 6) := by omega
          have HX := Lib.hid hx
          clear hx
          rcases hkk with h | h | h
          · have e8 := Lib.hid (point_lit x.i x.a x.b 0 (chk_point hc h))
            clear hc hf
            rcases h with h | h
            all_goals (
              rw [h] at r0 e7
              go_wp2_with (first | (go_at_call 14; refine (e7.out _).mono ?_; rintro e _ ⟨rfl, nx, rfl⟩) | (go_at_call 27; refine (e8.out _).mono ?_; rintro e _ ⟨rfl, nx, rfl⟩))
              go_roundw
              case rel => exact ⟨k + 1, _, by omega, by go_num, rfl⟩
              case measure => (first | (simp [intOf]; done) | (simp [intOf]; omega)))
          · have e8 := Lib.hid (asked_lit x.n x.d 0 hf.n hf.d (chk_time hc h))
            clear hc hf
            rw [h] at r0 e7
            go_wp2_with (first | (go_at_call 14; refine (e7.out _).mono ?_; rintro e _ ⟨rfl, nx, rfl⟩) | (go_at_call 28; refine (e8.out _).mono ?_; rintro e _ ⟨rfl, nx, rfl⟩))
            go_roundw
            case rel => exact ⟨k + 1, _, by omega, by go_num, rfl⟩
            case measure => (first | (simp [intOf]; done) | (simp [intOf]; omega))
          · clear hc hf
            rcases h with h | h | h
            all_goals (
              rw [h] at r0 e7
              go_wp2_with (first | (go_at_call 14; refine (e7.out _).mono ?_; rintro e _ ⟨rfl, nx, rfl⟩))
              go_roundw
              case rel => exact ⟨k + 1, _, by omega, by go_num, rfl⟩
              case measure => (first | (simp [intOf]; done) | (simp [intOf]; omega)))
        · go_wp2
          go_ret
          exact ⟨ret_bool rfl, ext_of (hb.ext _)⟩
  · have e1 := Lib.hid (wr_no l HL.out h0)
    clear h0
    go_enter Try.func8, Try.ntmps8
    go_wp2_with ((go_at_call 16; refine (alive_any _).mono ?_; rintro e _ ⟨rfl, nx, rfl⟩))
    refine (e1.out _ _ _ (HS.out.bel (by (try simp only [ext_ext]); repeat (first | exact Bel.refl _ | refine bel_and ?_ _ | refine bel_drews ?_ _ | refine Bel.ext ?_ _ | refine Bel.alloc ?_ _ | refine Bel.drewN ?_ _)))).mono ?_
    rintro e _ ⟨A5, c5, rfl, x5, rfl⟩
    go_wp2_with fail
    refine (e5.out _ (HB.out.bel (by (try simp only [ext_ext]); repeat (first | exact Bel.refl _ | refine bel_and ?_ _ | refine bel_drews ?_ _ | refine Bel.ext ?_ _ | refine Bel.alloc ?_ _ | refine Bel.drewN ?_ _)))).mono ?_
    rintro e _ ⟨A8, c8, rfl, x8, rfl, own8⟩
    simp only [ext_ext]
    have s8 := own8.sl
    simp only [ext_ext] at s8
    obtain ⟨W2, hW⟩ : ∃ W2, ext w ((nx.and x5).and x8) = W2 := ⟨_, rfl⟩
    rw [hW] at s8 ⊢
    have hb : Bel w W2 := by rw [← hW]; exact bel_ext _ _
    clear hW own8
    by_cases h120 : m.length < 120
    · have hn := h9 h120
      have f1 : ¬ 9 * (m.length : Int) < (b.length : Int) := by omega
      go_wp2
      go_loopw [10] (fun i wr' => ∃ (k : Nat) (y : Beyond), k ≤ m.length ∧ i = .int .i64 k ∧ wr' = ext W2 y) (fun i _ => m.length - (intOf i).toNat)
      case atStart => obtain ⟨y, hy⟩ := ext_of (Bel.refl W2); exact ⟨0, y, Nat.zero_le _, rfl, hy⟩
      case round =>
        obtain ⟨k, y, hk, rfl, rfl⟩ := hrel
        by_cases hlt : k < m.length
        · obtain ⟨x, hx⟩ : ∃ x, m[k]? = some x := ⟨_, List.getElem?_eq_getElem hlt⟩
          obtain ⟨b', o, rfl, hb'⟩ := s8.at_ (by omega)
          obtain ⟨r0, r1, r2, r3, r4, r5, r6⟩ := ask_at s8 hx
          have hc := hchk.out x (List.mem_of_getElem? hx)
          have hf := fits_of_chk hc
          have e7 := Lib.hid (chk_lit x hf 0 hc)
          have hkr := chk_kind hc
          have hkk : (x.k = 1 ∨ x.k = 3) ∨ x.k = 4 ∨ (x.k = 2 ∨ x.k = 5 ∨ x.k = 6) := by omega
          have HX := Lib.hid hx
          clear hx
          rcases hkk with h | h | h
          · have e8 := Lib.hid (point_lit x.i x.a x.b 0 (chk_point hc h))
            clear hc hf
            rcases h with h | h
            all_goals (
              rw [h] at r0 e7
              go_wp2_with (first | (go_at_call 14; refine (e7.out _).mono ?_; rintro e _ ⟨rfl, nx, rfl⟩) | (go_at_call 27; refine (e8.out _).mono ?_; rintro e _ ⟨rfl, nx, rfl⟩))
              go_roundw
              case rel => exact ⟨k + 1, _, by omega, by go_num, rfl⟩
              case measure => (first | (simp [intOf]; done) | (simp [intOf]; omega)))
          · have e8 := Lib.hid (asked_lit x.n x.d 0 hf.n hf.d (chk_time hc h))
            clear hc hf
            rw [h] at r0 e7
            go_wp2_with (first | (go_at_call 14; refine (e7.out _).mono ?_; rintro e _ ⟨rfl, nx, rfl⟩) | (go_at_call 28; refine (e8.out _).mono ?_; rintro e _ ⟨rfl, nx, rfl⟩))
            go_roundw
            case rel => exact ⟨k + 1, _, by omega, by go_num, rfl⟩
            case measure => (first | (simp [intOf]; done) | (simp [intOf]; omega))
          · clear hc hf
            rcases h with h | h | h
            all_goals (
              rw [h] at r0 e7
              go_wp2_with (first | (go_at_call 14; refine (e7.out _).mono ?_; rintro e _ ⟨rfl, nx, rfl⟩))
              go_roundw
              case rel => exact ⟨k + 1, _, by omega, by go_num, rfl⟩
              case measure => (first | (simp [intOf]; done) | (simp [intOf]; omega)))
        · go_wp2
          go_ret
          exact ⟨ret_bool rfl, ext_of (hb.ext _)⟩
    · go_wp2
      go_loopw [10] (fun i wr' => ∃ (k : Nat) (y : Beyond), k ≤ m.length ∧ i = .int .i64 k ∧ wr' = ext W2 y) (fun i _ => m.length - (intOf i).toNat)
      case atStart => obtain ⟨y, hy⟩ := ext_of (Bel.refl W2); exact ⟨0, y, Nat.zero_le _, rfl, hy⟩
      case round =>
        obtain ⟨k, y, hk, rfl, rfl⟩ := hrel
        by_cases hlt : k < m.length
        · obtain ⟨x, hx⟩ : ∃ x, m[k]? = some x := ⟨_, List.getElem?_eq_getElem hlt⟩
          obtain ⟨b', o, rfl, hb'⟩ := s8.at_ (by omega)
          obtain ⟨r0, r1, r2, r3, r4, r5, r6⟩ := ask_at s8 hx
          have hc := hchk.out x (List.mem_of_getElem? hx)
          have hf := fits_of_chk hc
          have e7 := Lib.hid (chk_lit x hf 0 hc)
          have hkr := chk_kind hc
          have hkk : (x.k = 1 ∨ x.k = 3) ∨ x.k = 4 ∨ (x.k = 2 ∨ x.k = 5 ∨ x.k = 6) := by omega
          have HX := Lib.hid hx
          clear hx
          rcases hkk with h | h | h
          · have e8 := Lib.hid (point_lit x.i x.a x.b 0 (chk_point hc h))
            clear hc hf
            rcases h with h | h
            all_goals (
              rw [h] at r0 e7
              go_wp2_with (first | (go_at_call 14; refine (e7.out _).mono ?_; rintro e _ ⟨rfl, nx, rfl⟩) | (go_at_call 27; refine (e8.out _).mono ?_; rintro e _ ⟨rfl, nx, rfl⟩))
              go_roundw
              case rel => exact ⟨k + 1, _, by omega, by go_num, rfl⟩
              case measure => (first | (simp [intOf]; done) | (simp [intOf]; omega)))
          · have e8 := Lib.hid (asked_lit x.n x.d 0 hf.n hf.d (chk_time hc h))
            clear hc hf
            rw [h] at r0 e7
            go_wp2_with (first | (go_at_call 14; refine (e7.out _).mono ?_; rintro e _ ⟨rfl, nx, rfl⟩) | (go_at_call 28; refine (e8.out _).mono ?_; rintro e _ ⟨rfl, nx, rfl⟩))
            go_roundw
            case rel => exact ⟨k + 1, _, by omega, by go_num, rfl⟩
            case measure => (first | (simp [intOf]; done) | (simp [intOf]; omega))
          · clear hc hf
            rcases h with h | h | h
            all_goals (
              rw [h] at r0 e7
              go_wp2_with (first | (go_at_call 14; refine (e7.out _).mono ?_; rintro e _ ⟨rfl, nx, rfl⟩))
              go_roundw
              case rel => exact ⟨k + 1, _, by omega, by go_num, rfl⟩
              case measure => (first | (simp [intOf]; done) | (simp [intOf]; omega)))
        · go_wp2
          go_ret
          exact ⟨ret_bool rfl, ext_of (hb.ext _)⟩
set_option maxRecDepth 100000 in
theorem decodeWild_lifted (os : Os) (started : os.Started) (H : Type) (enc : TypeId × Value → H) :
    ReturnsInHanded {} Try.checked os 8 .any (Rows.decodeWildSpec.pre6 enc Try.prog Try.f8 Rows.decodeWildRow.domain false) (Rows.decodeWildSpec.post enc Try.prog Try.f8 false true false false) := by
  refine returnsInHanded_of_change (C := Try.checked) ownKnob_ started (by kernel_rfl) Try.func8
    (ChangeSpec.witness6 (enc := enc) (C := Try.checked) false ⟨#[], #[.slice none 0 0, .slice none 0 0], []⟩ 8 (by kernel_rfl) (by kernel_rfl) (by kernel_rfl) (by kernel_rfl)) ?_
  intro W base args ds gs before hval0 hW hcnd _
  have hval : ∀ (j : Nat) t v, Try.f8.params[j]? = some t → args[j]? = some v → Value.okWide Try.prog W .any base t v := hval0
  have hW' := hW
  obtain ⟨p, q, hA0, hV, rfl, hfz, hnd⟩ := hW
  have hA : DataW.TrodAll enc Try.prog W 0 (fun _ => true) true Try.f8.params.toList args.toList ds p := hA0
  rw [Try.params8] at hA hval
  obtain ⟨v0, vs0, d0, ds0, p0, q0, hargs, rfl, rfl, h0, r0⟩ := trodAll_cons hA
  obtain ⟨v1, vs1, d1, ds1, p1, q1, rfl, rfl, rfl, h1, r1⟩ := trodAll_cons r0
  obtain ⟨rfl, rfl, rfl⟩ := trodAll_nil r1
  obtain rfl : args = #[v0, v1] := by cases args; simp_all
  obtain ⟨rfl, rfl⟩ := trodVars_none hV
  have k0_ := h0
  have lt0 : ∀ x ∈ p0, x.block < W.heap.size := by obtain ⟨m, hm⟩ := k0_; exact DataW.trod_lt m _ _ _ hm
  have k1_ := h1
  have lt1 : ∀ x ∈ p1, x.block < W.heap.size := by obtain ⟨m, hm⟩ := k1_; exact DataW.trod_lt m _ _ _ hm
  obtain ⟨A0, n0, c0, rfl⟩ := okWide_slice Try.underlying43 (hval 0 43 v0 rfl rfl)
  obtain ⟨fuel0, hf0⟩ := h0
  obtain ⟨l0, rfl, hsl0, hok0, hnil0, hmax0⟩ := arg_slice Pel.Ask.cells Pel.Ask.Fits Try.underlying43 cells_ask (by decide) (fun _ => rfl) ask_read hf0
  obtain ⟨A1, n1, c1, rfl⟩ := okWide_slice Try.underlying28 (hval 1 28 v1 rfl rfl)
  obtain ⟨fuel1, hf1⟩ := h1
  have hnil1 := arg_nil Try.underlying28 hf1
  obtain ⟨l1, rfl, hsl1⟩ := arg_bytes Try.underlying28 Try.underlying5 cells_u8 hf1
  clear hA0 hval0
  refine (wildLaw_walk l0 hok0 l1 A0 A1 c0 c1 W hsl0 hsl1 hnil1).mono fun e W' ⟨he, hx⟩ => ?_
  have bel : Below W.heap.size W W' := bel_of hx
  subst he
  exact ⟨_, rfl, _, _, _, [], _, [], hW', trodAll_mk1 (shut_bool Try.underlying4 _), (trodAll_cons_mk (Below.trod laidOut_ (by kernel_rfl) (of_decide_eq_true (by kernel_rfl)) k0_ bel lt0) (trodAll_cons_mk (Below.trod laidOut_ (by kernel_rfl) (of_decide_eq_true (by kernel_rfl)) k1_ bel lt1) trodAll_mk0)), rfl, bel.frame _, fun h => by cases h⟩
theorem decodeWild_over : Rows.decodeWildRow.holds Try.pinned (OpenSpec.ofChange Rows.decodeWildSpec) :=
  OpenClaim.holds_of_wide 8 Try.f8 rfl rfl rfl rfl rfl rfl rfl ⟨rfl, rfl, rfl, rfl, rfl⟩ rfl rfl rfl rfl rfl (by kernel_rfl) Try.func8 (by kernel_rfl)
    (of_decide_eq_true (by kernel_rfl)) (by unfold Func.isWrapper; rw [if_neg (of_decide_eq_false (by kernel_rfl))]; exact ⟨rfl, rfl⟩)
    (fun os started H enc _ => decodeWild_lifted os started H enc)
/-- The statement. -/
theorem decodeWild_holds : Rows.DecodeWildSaid := decodeWild_over
end Go.Proofs.Ytijinelgbiombaa
