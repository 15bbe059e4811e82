/- For all lists of asks and all bytes: Read of Write are the asks, Write of Read the bytes, and two lists written one behind the other are read as one: the statement DecodeWrites. No condition. -/
import Derived.Test.YtijinelgbiombaaDec35
import Derived.Test.YtijinelgbiombaaDec18
import Derived.Test.YtijinelgbiombaaSpec36f
import Derived.Test.YtijinelgbiombaaArgs36
set_option linter.unusedSimpArgs false
set_option linter.unusedVariables false
namespace Go.Proofs.Ytijinelgbiombaa
open Go.ChangeShapes Go.WideShapes Go.ChangeAt Go.RowKit Go.Pel
theorem wr_lit (m : List Pel.Ask) (hin : ∀ x ∈ m, x.Fits) (b : List UInt8) (h : wr m = (b, 0)) (A : Option Addr) (c : Nat) (W : World) (hs : Sl W 7 A m.length c (va m)) :
    Calls Try.prog 17 #[.slice A m.length c] W fun e w' => ∃ A' c', e = .returned (.tuple #[.slice A' b.length c', .int .i64 0]) ∧ ∃ y, w' = ext W y ∧ Own (ext W y) W.heap.size 5 1 A' b.length c' (vb b) := by
  have hq := write_any A c m W hs hin
  rw [h] at hq
  exact hq
theorem wr_no (m : List Pel.Ask) (hin : ∀ x ∈ m, x.Fits) (h : wr m = ([], 8)) (A : Option Addr) (c : Nat) (W : World) (hs : Sl W 7 A m.length c (va m)) :
    Calls Try.prog 17 #[.slice A m.length c] W fun e w' => ∃ A' c', e = .returned (.tuple #[.slice A' 0 c', .int .i64 8]) ∧ ∃ y, w' = ext W y := by
  have hq := write_any A c m W hs hin
  rw [h] at hq
  refine hq.mono ?_
  rintro e _ ⟨A', c', rfl, y, rfl, _⟩
  exact ⟨A', c', rfl, y, rfl⟩
theorem rd_lit (l : List UInt8) (m : List Pel.Ask) (hl : l.length ≤ 1000000) (h : rd l = (m, 0)) (A : Option Addr) (c k : Nat) (W : World) (hk : k = l.length) (hs : Sl W 1 A k c (vb l)) :
    Calls Try.prog 19 #[.slice A k c] W fun e w' => ∃ A' c', e = .returned (.tuple #[.slice A' m.length c', .int .i64 0]) ∧ ∃ y, w' = ext W y ∧ Own (ext W y) W.heap.size 27 7 A' m.length c' (va m) := by
  subst hk
  have hq := read_any A c l W hs hl
  rw [h] at hq
  exact hq
theorem rd_no (l : List UInt8) (hl : l.length ≤ 1000000) (h : rd l = ([], 12)) (A : Option Addr) (c k : Nat) (W : World) (hk : k = l.length) (hs : Sl W 1 A k c (vb l)) :
    Calls Try.prog 19 #[.slice A k c] W fun e w' => ∃ A' c', e = .returned (.tuple #[.slice A' 0 c', .int .i64 12]) ∧ ∃ y, w' = ext W y := by
  subst hk
  have hq := read_any A c l W hs hl
  rw [h] at hq
  refine hq.mono ?_
  rintro e _ ⟨A', c', rfl, y, rfl, _⟩
  exact ⟨A', c', rfl, y, rfl⟩
set_option maxRecDepth 10000 in
set_option maxHeartbeats 4000000 in
theorem writes_walk (l m : List Pel.Ask) (hl : ∀ x ∈ l, x.Fits) (hm : ∀ x ∈ m, x.Fits) (b : List UInt8) (A A2 B : Option Addr) (c c2 d : Nat) (w : World) (hs : Sl w 7 A l.length c (va l)) (hn : A = none → c = 0)
    (hs2 : Sl w 7 A2 m.length c2 (va m)) (hn2 : A2 = none → c2 = 0) (hsB : Sl w 1 B b.length d (vb b)) (hnB : B = none → d = 0) :
    Calls Try.prog 7 #[.slice A l.length c, .slice A2 m.length c2, .slice B b.length d] w fun e w' => e = .returned (.bool true) ∧ ∃ x, w' = ext w x := by
  have HL := Lib.hid hl; clear hl
  have HM := Lib.hid hm; clear hm
  by_cases h1 : 60 < l.length ∨ 60 < m.length ∨ 1100 < b.length
  · have d1 : ¬ 60 < l.length → (60 < (m.length : Int) ∨ 1100 < (b.length : Int)) := by omega
    by_cases g1 : 60 < l.length
    · go_enter Try.func7, Try.ntmps7
      go_wp2_with ((go_at_call 16; refine (alive_any _).mono ?_; rintro e _ ⟨rfl, nx, rfl⟩))
      (go_ret; exact ⟨ret_bool (by rfl), ext_of (by (try simp only [ext_ext]); repeat (first | exact Bel.refl _ | refine bel_and ?_ _ | refine bel_drews ?_ _ | refine Bel.ext ?_ _ | refine Bel.alloc ?_ _ | refine Bel.drewN ?_ _))⟩)
    · by_cases g2 : 60 < m.length
      · go_enter Try.func7, Try.ntmps7
        go_wp2_with ((go_at_call 16; refine (alive_any _).mono ?_; rintro e _ ⟨rfl, nx, rfl⟩))
        (go_ret; exact ⟨ret_bool (by rfl), ext_of (by (try simp only [ext_ext]); repeat (first | exact Bel.refl _ | refine bel_and ?_ _ | refine bel_drews ?_ _ | refine Bel.ext ?_ _ | refine Bel.alloc ?_ _ | refine Bel.drewN ?_ _))⟩)
      · have g3 : 1100 < b.length := by omega
        go_enter Try.func7, Try.ntmps7
        go_wp2_with ((go_at_call 16; refine (alive_any _).mono ?_; rintro e _ ⟨rfl, nx, rfl⟩))
        (go_ret; exact ⟨ret_bool (by rfl), ext_of (by (try simp only [ext_ext]); repeat (first | exact Bel.refl _ | refine bel_and ?_ _ | refine bel_drews ?_ _ | refine Bel.ext ?_ _ | refine Bel.alloc ?_ _ | refine Bel.drewN ?_ _))⟩)
  have g1 : ¬ 60 < l.length := by omega
  have g2 : ¬ 60 < m.length := by omega
  have g3 : ¬ 1100 < b.length := by omega
  clear h1
  have HS := Lib.hid hs
  have HS2 := Lib.hid hs2
  have HB := Lib.hid hsB
  rcases wr_err (l := l) (by omega) with h0 | h0
  · obtain ⟨_, hc1, hw1⟩ := wr_zero h0
    have e1 := Lib.hid (wr_lit l HL.out _ hw1)
    rcases wr_err (l := m) (by omega) with h2 | h2
    · obtain ⟨_, hc2, hw2⟩ := wr_zero h2
      have e2 := Lib.hid (wr_lit m HM.out _ hw2)
      have hcat := rd_cat (l := l ++ m) (fun x hx => (List.mem_append.1 hx).elim (hc1 x) (hc2 x)) (by rw [List.length_append]; omega) (by have := (cat_len (l ++ m)).2; rw [List.length_append] at this; omega)
      have hk1 := (cat_len l).2
      have hk2 := (cat_len m).2
      have e3 := Lib.hid (rd_lit (cat (l ++ m)) (l ++ m) (by rw [cat_append, List.length_append]; omega) hcat)
      have p1 := Lib.hid (fun B1 B2 d1 d2 => same_any B1 B2 d1 d2 (l ++ m) (l ++ m))
      have hlm : (l ++ m).length = l.length + m.length := List.length_append
      rw [hlm] at e3 p1
      have HC := Lib.hid (show (cat (l ++ m)).length = (cat l).length + (cat m).length by rw [cat_append, List.length_append])
      have HV := Lib.hid (show vb (cat (l ++ m)) = vb (cat l) ++ vb (cat m) by rw [cat_append, vb_append])
      have HV2 := Lib.hid (va_append l m)
      clear h0 h2 hc1 hw1 hc2 hw2 hcat hlm
      generalize cat l = cl at *
      generalize cat m = cm at *
      have k1 : ¬ 540 < cl.length := by omega
      go_enter Try.func7, Try.ntmps7
      go_wp2_with ((go_at_call 16; refine (alive_any _).mono ?_; rintro e _ ⟨rfl, nx, rfl⟩))
      refine (e1.out _ _ _ (HS.out.bel (by (try simp only [ext_ext]); repeat (first | exact Bel.refl _ | refine bel_and ?_ _ | refine bel_drews ?_ _ | refine Bel.ext ?_ _ | refine Bel.alloc ?_ _ | refine Bel.drewN ?_ _)))).mono ?_
      rintro e _ ⟨A5, c5, rfl, x5, rfl, own5⟩
      go_wp2_with fail
      refine (e2.out _ _ _ (HS2.out.bel (by (try simp only [ext_ext]); repeat (first | exact Bel.refl _ | refine bel_and ?_ _ | refine bel_drews ?_ _ | refine Bel.ext ?_ _ | refine Bel.alloc ?_ _ | refine Bel.drewN ?_ _)))).mono ?_
      rintro e _ ⟨A6, c6, rfl, x6, rfl, own6⟩
      go_wp2_with (first | (at_builtin; (try refine wpList_unguard rfl (by first | rfl | simp [yielded]) ?_); refine append_new slt_bytes (by (try simp only [ext_ext]); repeat (first | exact Bel.refl _ | refine bel_and ?_ _ | refine bel_drews ?_ _ | refine Bel.ext ?_ _ | refine Bel.alloc ?_ _ | refine Bel.drewN ?_ _)) (own5.sl) (by (try simp only [ext_ext]); repeat (first | exact Bel.refl _ | refine bel_and ?_ _ | refine bel_drews ?_ _ | refine Bel.ext ?_ _ | refine Bel.alloc ?_ _ | refine Bel.drewN ?_ _)) (vb_one _) (own5.nilc) (by omega) rfl _ _ rfl rfl rfl (by simp [go_sem]) ?_; rintro A1 c1 y1 hown1) | (at_builtin; (try refine wpList_unguard rfl (by first | rfl | simp [yielded]) ?_); refine append_any slt_bytes (by (try simp only [ext_ext]); repeat (first | exact Bel.refl _ | refine bel_and ?_ _ | refine bel_drews ?_ _ | refine Bel.ext ?_ _ | refine Bel.alloc ?_ _ | refine Bel.drewN ?_ _)) hown1 (by (try simp only [ext_ext]); repeat (first | exact Bel.refl _ | refine bel_and ?_ _ | refine bel_drews ?_ _ | refine Bel.ext ?_ _ | refine Bel.alloc ?_ _ | refine Bel.drewN ?_ _)) (own6.sl) (by (try simp only [ext_ext]); repeat (first | exact Bel.refl _ | refine bel_and ?_ _ | refine bel_drews ?_ _ | refine Bel.ext ?_ _ | refine Bel.alloc ?_ _ | refine Bel.drewN ?_ _)) (vb_one _) (own6.nilc) (by omega) rfl _ _ rfl rfl rfl ?_; rintro A2 c2 y2 hown2))
      refine (e3.out _ _ _ _ HC.out.symm (by rw [HV.out]; exact hown2.sl.bel (by (try simp only [ext_ext]); repeat (first | exact Bel.refl _ | refine bel_and ?_ _ | refine bel_drews ?_ _ | refine Bel.ext ?_ _ | refine Bel.alloc ?_ _ | refine Bel.drewN ?_ _)))).mono ?_
      rintro e _ ⟨A7, c7, rfl, x7, rfl, own7⟩
      go_wp2_with (first | (at_builtin; (try refine wpList_unguard rfl (by first | rfl | simp [yielded]) ?_); refine append_new slt_asks (by (try simp only [ext_ext]); repeat (first | exact Bel.refl _ | refine bel_and ?_ _ | refine bel_drews ?_ _ | refine Bel.ext ?_ _ | refine Bel.alloc ?_ _ | refine Bel.drewN ?_ _)) (HS.out) (by (try simp only [ext_ext]); repeat (first | exact Bel.refl _ | refine bel_and ?_ _ | refine bel_drews ?_ _ | refine Bel.ext ?_ _ | refine Bel.alloc ?_ _ | refine Bel.drewN ?_ _)) (va_one _) (hn) (by omega) rfl _ _ rfl rfl rfl (by simp [go_sem]) ?_; rintro A3 c3 y3 hown3) | (at_builtin; (try refine wpList_unguard rfl (by first | rfl | simp [yielded]) ?_); refine append_any slt_asks (by (try simp only [ext_ext]); repeat (first | exact Bel.refl _ | refine bel_and ?_ _ | refine bel_drews ?_ _ | refine Bel.ext ?_ _ | refine Bel.alloc ?_ _ | refine Bel.drewN ?_ _)) hown3 (by (try simp only [ext_ext]); repeat (first | exact Bel.refl _ | refine bel_and ?_ _ | refine bel_drews ?_ _ | refine Bel.ext ?_ _ | refine Bel.alloc ?_ _ | refine Bel.drewN ?_ _)) (HS2.out) (by (try simp only [ext_ext]); repeat (first | exact Bel.refl _ | refine bel_and ?_ _ | refine bel_drews ?_ _ | refine Bel.ext ?_ _ | refine Bel.alloc ?_ _ | refine Bel.drewN ?_ _)) (va_one _) (hn2) (by omega) rfl _ _ rfl rfl rfl ?_; rintro A4 c4 y4 hown4))
      refine (p1.out _ _ _ _ _ (own7.sl.bel (by (try simp only [ext_ext]); repeat (first | exact Bel.refl _ | refine bel_and ?_ _ | refine bel_drews ?_ _ | refine Bel.ext ?_ _ | refine Bel.alloc ?_ _ | refine Bel.drewN ?_ _))) (by rw [HV2.out]; exact hown4.sl.bel (by (try simp only [ext_ext]); repeat (first | exact Bel.refl _ | refine bel_and ?_ _ | refine bel_drews ?_ _ | refine Bel.ext ?_ _ | refine Bel.alloc ?_ _ | refine Bel.drewN ?_ _))) (by omega) (by omega)).mono ?_
      rintro e _ ⟨rfl, xs, rfl⟩
      go_wp2_with fail
      rcases rd_err (l := b) (by omega) with h0 | h0
      · obtain ⟨hw, hall⟩ := rd_back h0
        have hrd := rd_len b
        obtain ⟨n, hn⟩ : ∃ n, rd b = (n, 0) := ⟨(rd b).1, by rw [← h0]⟩
        rw [hn] at hw hall hrd
        have e5 := Lib.hid (rd_lit b n (by omega) hn)
        have e6 := Lib.hid (wr_lit n (fun x hx => fits_of_chk (hall x hx)) b hw)
        clear h0 hw hall hn
        refine (e5.out _ _ _ _ rfl (HB.out.bel (by (try simp only [ext_ext]); repeat (first | exact Bel.refl _ | refine bel_and ?_ _ | refine bel_drews ?_ _ | refine Bel.ext ?_ _ | refine Bel.alloc ?_ _ | refine Bel.drewN ?_ _)))).mono ?_
        rintro e _ ⟨A8, c8, rfl, x8, rfl, own8⟩
        go_wp2_with fail
        refine (e6.out _ _ _ (own8.sl.bel (by (try simp only [ext_ext]); repeat (first | exact Bel.refl _ | refine bel_and ?_ _ | refine bel_drews ?_ _ | refine Bel.ext ?_ _ | refine Bel.alloc ?_ _ | refine Bel.drewN ?_ _)))).mono ?_
        rintro e _ ⟨A9, c9, rfl, x9, rfl, own9⟩
        simp only [ext_ext]
        have cv9 := conv_own own9 (Bel.refl _) Try.underlying28 Try.underlying5 Try.underlying9
        simp only [ext_ext] at cv9
        have cv8 := fun x => conv_any HB.out hnB (bel_ext w x) Try.underlying28 Try.underlying5 Try.underlying9
        go_wp2
        (go_ret; exact ⟨ret_bool (by simp), ext_of (by (try simp only [ext_ext]); repeat (first | exact Bel.refl _ | refine bel_and ?_ _ | refine bel_drews ?_ _ | refine Bel.ext ?_ _ | refine Bel.alloc ?_ _ | refine Bel.drewN ?_ _))⟩)
      · have e5 := Lib.hid (rd_no b (by omega) h0)
        clear h0
        refine (e5.out _ _ _ _ rfl (HB.out.bel (by (try simp only [ext_ext]); repeat (first | exact Bel.refl _ | refine bel_and ?_ _ | refine bel_drews ?_ _ | refine Bel.ext ?_ _ | refine Bel.alloc ?_ _ | refine Bel.drewN ?_ _)))).mono ?_
        rintro e _ ⟨A8, c8, rfl, x8, rfl⟩
        go_wp2
        (go_ret; exact ⟨ret_bool (by rfl), ext_of (by (try simp only [ext_ext]); repeat (first | exact Bel.refl _ | refine bel_and ?_ _ | refine bel_drews ?_ _ | refine Bel.ext ?_ _ | refine Bel.alloc ?_ _ | refine Bel.drewN ?_ _))⟩)
    · have e2 := Lib.hid (wr_no m HM.out h2)
      clear h0 h2 hc1 hw1
      generalize cat l = cl at *
      go_enter Try.func7, Try.ntmps7
      go_wp2_with ((go_at_call 16; refine (alive_any _).mono ?_; rintro e _ ⟨rfl, nx, rfl⟩))
      refine (e1.out _ _ _ (HS.out.bel (by (try simp only [ext_ext]); repeat (first | exact Bel.refl _ | refine bel_and ?_ _ | refine bel_drews ?_ _ | refine Bel.ext ?_ _ | refine Bel.alloc ?_ _ | refine Bel.drewN ?_ _)))).mono ?_
      rintro e _ ⟨A5, c5, rfl, x5, rfl, own5⟩
      go_wp2_with fail
      refine (e2.out _ _ _ (HS2.out.bel (by (try simp only [ext_ext]); repeat (first | exact Bel.refl _ | refine bel_and ?_ _ | refine bel_drews ?_ _ | refine Bel.ext ?_ _ | refine Bel.alloc ?_ _ | refine Bel.drewN ?_ _)))).mono ?_
      rintro e _ ⟨A6, c6, rfl, x6, rfl⟩
      go_wp2_with fail
      rcases rd_err (l := b) (by omega) with h0 | h0
      · obtain ⟨hw, hall⟩ := rd_back h0
        have hrd := rd_len b
        obtain ⟨n, hn⟩ : ∃ n, rd b = (n, 0) := ⟨(rd b).1, by rw [← h0]⟩
        rw [hn] at hw hall hrd
        have e5 := Lib.hid (rd_lit b n (by omega) hn)
        have e6 := Lib.hid (wr_lit n (fun x hx => fits_of_chk (hall x hx)) b hw)
        clear h0 hw hall hn
        refine (e5.out _ _ _ _ rfl (HB.out.bel (by (try simp only [ext_ext]); repeat (first | exact Bel.refl _ | refine bel_and ?_ _ | refine bel_drews ?_ _ | refine Bel.ext ?_ _ | refine Bel.alloc ?_ _ | refine Bel.drewN ?_ _)))).mono ?_
        rintro e _ ⟨A8, c8, rfl, x8, rfl, own8⟩
        go_wp2_with fail
        refine (e6.out _ _ _ (own8.sl.bel (by (try simp only [ext_ext]); repeat (first | exact Bel.refl _ | refine bel_and ?_ _ | refine bel_drews ?_ _ | refine Bel.ext ?_ _ | refine Bel.alloc ?_ _ | refine Bel.drewN ?_ _)))).mono ?_
        rintro e _ ⟨A9, c9, rfl, x9, rfl, own9⟩
        simp only [ext_ext]
        have cv9 := conv_own own9 (Bel.refl _) Try.underlying28 Try.underlying5 Try.underlying9
        simp only [ext_ext] at cv9
        have cv8 := fun x => conv_any HB.out hnB (bel_ext w x) Try.underlying28 Try.underlying5 Try.underlying9
        go_wp2
        (go_ret; exact ⟨ret_bool (by simp), ext_of (by (try simp only [ext_ext]); repeat (first | exact Bel.refl _ | refine bel_and ?_ _ | refine bel_drews ?_ _ | refine Bel.ext ?_ _ | refine Bel.alloc ?_ _ | refine Bel.drewN ?_ _))⟩)
      · have e5 := Lib.hid (rd_no b (by omega) h0)
        clear h0
        refine (e5.out _ _ _ _ rfl (HB.out.bel (by (try simp only [ext_ext]); repeat (first | exact Bel.refl _ | refine bel_and ?_ _ | refine bel_drews ?_ _ | refine Bel.ext ?_ _ | refine Bel.alloc ?_ _ | refine Bel.drewN ?_ _)))).mono ?_
        rintro e _ ⟨A8, c8, rfl, x8, rfl⟩
        go_wp2
        (go_ret; exact ⟨ret_bool (by rfl), ext_of (by (try simp only [ext_ext]); repeat (first | exact Bel.refl _ | refine bel_and ?_ _ | refine bel_drews ?_ _ | refine Bel.ext ?_ _ | refine Bel.alloc ?_ _ | refine Bel.drewN ?_ _))⟩)
  · have e1 := Lib.hid (wr_no l HL.out h0)
    clear h0
    have q2 := Lib.hid (fun W h => write_any A2 c2 m W h HM.out)
    generalize wr m = wm at *
    obtain ⟨wb, we⟩ := wm
    go_enter Try.func7, Try.ntmps7
    go_wp2_with ((go_at_call 16; refine (alive_any _).mono ?_; rintro e _ ⟨rfl, nx, rfl⟩))
    refine (e1.out _ _ _ (HS.out.bel (by (try simp only [ext_ext]); repeat (first | exact Bel.refl _ | refine bel_and ?_ _ | refine bel_drews ?_ _ | refine Bel.ext ?_ _ | refine Bel.alloc ?_ _ | refine Bel.drewN ?_ _)))).mono ?_
    rintro e _ ⟨A5, c5, rfl, x5, rfl⟩
    go_wp2_with fail
    refine (q2.out _ (HS2.out.bel (by (try simp only [ext_ext]); repeat (first | exact Bel.refl _ | refine bel_and ?_ _ | refine bel_drews ?_ _ | refine Bel.ext ?_ _ | refine Bel.alloc ?_ _ | refine Bel.drewN ?_ _)))).mono ?_
    rintro e _ ⟨A6, c6, rfl, x6, rfl, _⟩
    go_wp2_with fail
    rcases rd_err (l := b) (by omega) with h0 | h0
    · obtain ⟨hw, hall⟩ := rd_back h0
      have hrd := rd_len b
      obtain ⟨n, hn⟩ : ∃ n, rd b = (n, 0) := ⟨(rd b).1, by rw [← h0]⟩
      rw [hn] at hw hall hrd
      have e5 := Lib.hid (rd_lit b n (by omega) hn)
      have e6 := Lib.hid (wr_lit n (fun x hx => fits_of_chk (hall x hx)) b hw)
      clear h0 hw hall hn
      refine (e5.out _ _ _ _ rfl (HB.out.bel (by (try simp only [ext_ext]); repeat (first | exact Bel.refl _ | refine bel_and ?_ _ | refine bel_drews ?_ _ | refine Bel.ext ?_ _ | refine Bel.alloc ?_ _ | refine Bel.drewN ?_ _)))).mono ?_
      rintro e _ ⟨A8, c8, rfl, x8, rfl, own8⟩
      go_wp2_with fail
      refine (e6.out _ _ _ (own8.sl.bel (by (try simp only [ext_ext]); repeat (first | exact Bel.refl _ | refine bel_and ?_ _ | refine bel_drews ?_ _ | refine Bel.ext ?_ _ | refine Bel.alloc ?_ _ | refine Bel.drewN ?_ _)))).mono ?_
      rintro e _ ⟨A9, c9, rfl, x9, rfl, own9⟩
      simp only [ext_ext]
      have cv9 := conv_own own9 (Bel.refl _) Try.underlying28 Try.underlying5 Try.underlying9
      simp only [ext_ext] at cv9
      have cv8 := fun x => conv_any HB.out hnB (bel_ext w x) Try.underlying28 Try.underlying5 Try.underlying9
      go_wp2
      (go_ret; exact ⟨ret_bool (by simp), ext_of (by (try simp only [ext_ext]); repeat (first | exact Bel.refl _ | refine bel_and ?_ _ | refine bel_drews ?_ _ | refine Bel.ext ?_ _ | refine Bel.alloc ?_ _ | refine Bel.drewN ?_ _))⟩)
    · have e5 := Lib.hid (rd_no b (by omega) h0)
      clear h0
      refine (e5.out _ _ _ _ rfl (HB.out.bel (by (try simp only [ext_ext]); repeat (first | exact Bel.refl _ | refine bel_and ?_ _ | refine bel_drews ?_ _ | refine Bel.ext ?_ _ | refine Bel.alloc ?_ _ | refine Bel.drewN ?_ _)))).mono ?_
      rintro e _ ⟨A8, c8, rfl, x8, rfl⟩
      go_wp2
      (go_ret; exact ⟨ret_bool (by rfl), ext_of (by (try simp only [ext_ext]); repeat (first | exact Bel.refl _ | refine bel_and ?_ _ | refine bel_drews ?_ _ | refine Bel.ext ?_ _ | refine Bel.alloc ?_ _ | refine Bel.drewN ?_ _))⟩)
set_option maxRecDepth 100000 in
theorem decodeWrites_lifted (os : Os) (started : os.Started) (H : Type) (enc : TypeId × Value → H) :
    ReturnsInHanded {} Try.checked os 7 .any (Rows.decodeWritesSpec.pre6 enc Try.prog Try.f7 Rows.decodeWritesRow.domain false) (Rows.decodeWritesSpec.post enc Try.prog Try.f7 false true false false) := by
  refine returnsInHanded_of_change (C := Try.checked) ownKnob_ started (by kernel_rfl) Try.func7
    (ChangeSpec.witness6 (enc := enc) (C := Try.checked) false ⟨#[], #[.slice none 0 0, .slice none 0 0, .slice none 0 0], []⟩ 8 (by kernel_rfl) (by kernel_rfl) (by kernel_rfl) (by kernel_rfl)) ?_
  intro W base args ds gs before hval0 hW hcnd _
  have hval : ∀ (j : Nat) t v, Try.f7.params[j]? = some t → args[j]? = some v → Value.okWide Try.prog W .any base t v := hval0
  have hW' := hW
  obtain ⟨p, q, hA0, hV, rfl, hfz, hnd⟩ := hW
  have hA : DataW.TrodAll enc Try.prog W 0 (fun _ => true) true Try.f7.params.toList args.toList ds p := hA0
  rw [Try.params7] at hA hval
  obtain ⟨v0, vs0, d0, ds0, p0, q0, hargs, rfl, rfl, h0, r0⟩ := trodAll_cons hA
  obtain ⟨v1, vs1, d1, ds1, p1, q1, rfl, rfl, rfl, h1, r1⟩ := trodAll_cons r0
  obtain ⟨v2, vs2, d2, ds2, p2, q2, rfl, rfl, rfl, h2, r2⟩ := trodAll_cons r1
  obtain ⟨rfl, rfl, rfl⟩ := trodAll_nil r2
  obtain rfl : args = #[v0, v1, v2] := by cases args; simp_all
  obtain ⟨rfl, rfl⟩ := trodVars_none hV
  have k0_ := h0
  have lt0 : ∀ x ∈ p0, x.block < W.heap.size := by obtain ⟨m, hm⟩ := k0_; exact DataW.trod_lt m _ _ _ hm
  have k1_ := h1
  have lt1 : ∀ x ∈ p1, x.block < W.heap.size := by obtain ⟨m, hm⟩ := k1_; exact DataW.trod_lt m _ _ _ hm
  have k2_ := h2
  have lt2 : ∀ x ∈ p2, x.block < W.heap.size := by obtain ⟨m, hm⟩ := k2_; exact DataW.trod_lt m _ _ _ hm
  obtain ⟨A0, n0, c0, rfl⟩ := okWide_slice Try.underlying43 (hval 0 43 v0 rfl rfl)
  obtain ⟨fuel0, hf0⟩ := h0
  obtain ⟨l0, rfl, hsl0, hok0, hnil0, hmax0⟩ := arg_slice Pel.Ask.cells Pel.Ask.Fits Try.underlying43 cells_ask (by decide) (fun _ => rfl) ask_read hf0
  obtain ⟨A1, n1, c1, rfl⟩ := okWide_slice Try.underlying43 (hval 1 43 v1 rfl rfl)
  obtain ⟨fuel1, hf1⟩ := h1
  obtain ⟨l1, rfl, hsl1, hok1, hnil1, hmax1⟩ := arg_slice Pel.Ask.cells Pel.Ask.Fits Try.underlying43 cells_ask (by decide) (fun _ => rfl) ask_read hf1
  obtain ⟨A2, n2, c2, rfl⟩ := okWide_slice Try.underlying28 (hval 2 28 v2 rfl rfl)
  obtain ⟨fuel2, hf2⟩ := h2
  have hnil2 := arg_nil Try.underlying28 hf2
  obtain ⟨l2, rfl, hsl2⟩ := arg_bytes Try.underlying28 Try.underlying5 cells_u8 hf2
  clear hA0 hval0
  refine (writes_walk l0 l1 hok0 hok1 l2 A0 A1 A2 c0 c1 c2 W hsl0 hnil0 hsl1 hnil1 hsl2 hnil2).mono fun e W' ⟨he, hx⟩ => ?_
  have bel : Below W.heap.size W W' := bel_of hx
  subst he
  exact ⟨_, rfl, _, _, _, [], _, [], hW', trodAll_mk1 (shut_bool Try.underlying4 _), (trodAll_cons_mk (Below.trod laidOut_ (by kernel_rfl) (of_decide_eq_true (by kernel_rfl)) k0_ bel lt0) (trodAll_cons_mk (Below.trod laidOut_ (by kernel_rfl) (of_decide_eq_true (by kernel_rfl)) k1_ bel lt1) (trodAll_cons_mk (Below.trod laidOut_ (by kernel_rfl) (of_decide_eq_true (by kernel_rfl)) k2_ bel lt2) trodAll_mk0))), rfl, bel.frame _, fun h => by cases h⟩
theorem decodeWrites_over : Rows.decodeWritesRow.holds Try.pinned (OpenSpec.ofChange Rows.decodeWritesSpec) :=
  OpenClaim.holds_of_wide 7 Try.f7 rfl rfl rfl rfl rfl rfl rfl ⟨rfl, rfl, rfl, rfl, rfl⟩ rfl rfl rfl rfl rfl (by kernel_rfl) Try.func7 (by kernel_rfl)
    (of_decide_eq_true (by kernel_rfl)) (by unfold Func.isWrapper; rw [if_neg (of_decide_eq_false (by kernel_rfl))]; exact ⟨rfl, rfl⟩)
    (fun os started H enc _ => decodeWrites_lifted os started H enc)
/-- The statement. -/
theorem decodeWrites_holds : Rows.DecodeWritesSaid := decodeWrites_over
end Go.Proofs.Ytijinelgbiombaa
