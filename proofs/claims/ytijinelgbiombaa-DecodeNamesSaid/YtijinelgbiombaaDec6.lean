/- The reference's first, Decode, Encode. -/
import Derived.Test.YtijinelgbiombaaDec5
import Derived.Deep.RegionHeld3
set_option linter.unusedSimpArgs false
set_option linter.unusedVariables false
namespace Go.Proofs.Ytijinelgbiombaa
open Go.RowKit Go.Pel
set_option maxHeartbeats 1000000 in
theorem first_any (A : Option Addr) (c : Nat) (l : List UInt8) (w : World) (hs : Sl w 1 A l.length c (vb l)) (hl : l.length ≤ 1000000) :
    Calls Try.prog 34 #[.slice A l.length c] w fun e w' => e = .returned (.tuple #[.agg #[.int .u8 (firstAsk l).k, .int .i64 (firstAsk l).i, .int .i64 (firstAsk l).a, .int .i64 (firstAsk l).b, .int .i64 (firstAsk l).j, .int .i64 (firstAsk l).n, .int .i64 (firstAsk l).d], .int .i64 (firstLen l)]) ∧ ∃ x, w' = ext w x := by
  have E0 := Lib.hid (@firstOk_yes l)
  have E1 := Lib.hid (@firstOk_no l)
  have Y1 := Lib.hid (@firstAsk_yes l)
  have Y2 := Lib.hid (@firstLen_yes l)
  have N1 := Lib.hid (@firstAsk_no l)
  have N2 := Lib.hid (@firstLen_no l)
  by_cases h0 : 0 < l.length
  · have z0 : ((l.length : Int) == 0) = false := by rw [beq_eq_false_iff_ne]; omega
    obtain ⟨⟨p1, p2⟩, ⟨p3, p4⟩, ⟨p5, p6⟩⟩ := plainAsk_bound l
    have hq := Lib.hid (bytes_any (plainAsk l).k (plainAsk l).i (plainAsk l).a (plainAsk l).b (plainAsk l).j (plainAsk l).n (plainAsk l).d)
    have hq2 := Lib.hid (plain_any A c l)
    rcases askChk_cases (plainAsk l).k (plainAsk l).i (plainAsk l).a (plainAsk l).b (plainAsk l).j (plainAsk l).n (plainAsk l).d with e0 | e0
    · have e0' : (plainAsk l).chk = 0 := e0
      generalize hp : plainAsk l = p at *
      have HP := Lib.hid hp; clear hp
      have EH := Lib.hid e0
      have EH' := Lib.hid e0'
      clear e0'
      by_cases h2 : askLen p.k ≤ l.length
      · have K1 := Lib.hid (Y1.out (E0.out h0 EH'.out h2))
        have K2 := Lib.hid (Y2.out (E0.out h0 EH'.out h2))
        clear E0 E1 Y1 Y2 N1 N2
        go_enter Try.func34, Try.ntmps34
        go_wp2_with fail
        refine (hq2.out _ (hs.bel (by (try simp only [ext_ext]); repeat (first | exact Bel.refl _ | assumption | refine bel_and ?_ _ | refine bel_drews ?_ _ | refine Bel.ext ?_ _ | refine Bel.alloc ?_ _ | refine Bel.drewN ?_ _))) hl h0).mono ?_
        rintro e _ ⟨rfl, x1, rfl⟩
        go_wp2_with (first | (go_at_call 15; refine (e0 ▸ ref36Check_any _ _ _ _ _ _ _ _ (by omega) (by omega)).mono ?_; rintro e _ ⟨rfl, nx, rfl⟩) | (go_at_call 31; refine (hq.out _ EH.out).mono ?_; rintro e _ ⟨A5, c5, rfl, x5, rfl, hown5⟩))
        go_region_held3 (fun w' => w'.cell? ⟨w.heap.size + 1 + x1.len, 0, none⟩ = some (.int .u8 (p).k) ∧ w'.cell? ⟨w.heap.size + 1 + x1.len, 1, none⟩ = some (.int .i64 (p).i) ∧ w'.cell? ⟨w.heap.size + 1 + x1.len, 2, none⟩ = some (.int .i64 (p).a) ∧ w'.cell? ⟨w.heap.size + 1 + x1.len, 3, none⟩ = some (.int .i64 (p).b) ∧ w'.cell? ⟨w.heap.size + 1 + x1.len, 4, none⟩ = some (.int .i64 (p).j) ∧ w'.cell? ⟨w.heap.size + 1 + x1.len, 5, none⟩ = some (.int .i64 (p).n) ∧ w'.cell? ⟨w.heap.size + 1 + x1.len, 6, none⟩ = some (.int .i64 (p).d)) (simp [go_sem]) ((go_at_call 31; refine (hq.out _ EH.out).mono ?_; rintro e _ ⟨A5, c5, rfl, x5, rfl, hown5⟩))
        go_wp2
        exact bodyPost_ret (v := .tuple #[.agg #[.int .u8 (firstAsk l).k, .int .i64 (firstAsk l).i, .int .i64 (firstAsk l).a, .int .i64 (firstAsk l).b, .int .i64 (firstAsk l).j, .int .i64 (firstAsk l).n, .int .i64 (firstAsk l).d], .int .i64 (firstLen l)]) (by simp [results, Try.results34, go_sem, K1.out, K2.out]) rfl ⟨rfl, ext_of (by (try simp only [ext_ext]); repeat (first | exact Bel.refl _ | assumption | refine bel_and ?_ _ | refine bel_drews ?_ _ | refine Bel.ext ?_ _ | refine Bel.alloc ?_ _ | refine Bel.drewN ?_ _))⟩
      · have K1 := Lib.hid (N1.out (E1.out (.inr (.inr (by omega)))))
        have K2 := Lib.hid (N2.out (E1.out (.inr (.inr (by omega)))))
        clear E0 E1 Y1 Y2 N1 N2
        go_enter Try.func34, Try.ntmps34
        go_wp2_with fail
        refine (hq2.out _ (hs.bel (by (try simp only [ext_ext]); repeat (first | exact Bel.refl _ | assumption | refine bel_and ?_ _ | refine bel_drews ?_ _ | refine Bel.ext ?_ _ | refine Bel.alloc ?_ _ | refine Bel.drewN ?_ _))) hl h0).mono ?_
        rintro e _ ⟨rfl, x1, rfl⟩
        go_wp2_with (first | (go_at_call 15; refine (e0 ▸ ref36Check_any _ _ _ _ _ _ _ _ (by omega) (by omega)).mono ?_; rintro e _ ⟨rfl, nx, rfl⟩) | (go_at_call 31; refine (hq.out _ EH.out).mono ?_; rintro e _ ⟨A5, c5, rfl, x5, rfl, hown5⟩))
        exact bodyPost_ret (v := .tuple #[.agg #[.int .u8 (firstAsk l).k, .int .i64 (firstAsk l).i, .int .i64 (firstAsk l).a, .int .i64 (firstAsk l).b, .int .i64 (firstAsk l).j, .int .i64 (firstAsk l).n, .int .i64 (firstAsk l).d], .int .i64 (firstLen l)]) (by simp [results, Try.results34, go_sem, K1.out, K2.out, Ask.zero]) rfl ⟨rfl, ext_of (by (try simp only [ext_ext]); repeat (first | exact Bel.refl _ | assumption | refine bel_and ?_ _ | refine bel_drews ?_ _ | refine Bel.ext ?_ _ | refine Bel.alloc ?_ _ | refine Bel.drewN ?_ _))⟩
    · have e0' : (plainAsk l).chk = 8 := e0
      have K1 := Lib.hid (N1.out (E1.out (.inr (.inl (by omega)))))
      have K2 := Lib.hid (N2.out (E1.out (.inr (.inl (by omega)))))
      clear E0 E1 Y1 Y2 N1 N2 e0'
      go_enter Try.func34, Try.ntmps34
      go_wp2_with fail
      refine (hq2.out _ (hs.bel (by (try simp only [ext_ext]); repeat (first | exact Bel.refl _ | assumption | refine bel_and ?_ _ | refine bel_drews ?_ _ | refine Bel.ext ?_ _ | refine Bel.alloc ?_ _ | refine Bel.drewN ?_ _))) hl h0).mono ?_
      rintro e _ ⟨rfl, x1, rfl⟩
      go_wp2_with (first | (go_at_call 15; refine (e0 ▸ ref36Check_any _ _ _ _ _ _ _ _ (by omega) (by omega)).mono ?_; rintro e _ ⟨rfl, nx, rfl⟩))
      exact bodyPost_ret (v := .tuple #[.agg #[.int .u8 (firstAsk l).k, .int .i64 (firstAsk l).i, .int .i64 (firstAsk l).a, .int .i64 (firstAsk l).b, .int .i64 (firstAsk l).j, .int .i64 (firstAsk l).n, .int .i64 (firstAsk l).d], .int .i64 (firstLen l)]) (by simp [results, Try.results34, go_sem, K1.out, K2.out, Ask.zero]) rfl ⟨rfl, ext_of (by (try simp only [ext_ext]); repeat (first | exact Bel.refl _ | assumption | refine bel_and ?_ _ | refine bel_drews ?_ _ | refine Bel.ext ?_ _ | refine Bel.alloc ?_ _ | refine Bel.drewN ?_ _))⟩
  · have K1 := Lib.hid (N1.out (E1.out (.inl (by omega))))
    have K2 := Lib.hid (N2.out (E1.out (.inl (by omega))))
    clear E0 E1 Y1 Y2 N1 N2
    have z0 : ((l.length : Int) == 0) = true := by rw [beq_iff_eq]; omega
    go_enter Try.func34, Try.ntmps34
    go_wp2
    exact bodyPost_ret (v := .tuple #[.agg #[.int .u8 (firstAsk l).k, .int .i64 (firstAsk l).i, .int .i64 (firstAsk l).a, .int .i64 (firstAsk l).b, .int .i64 (firstAsk l).j, .int .i64 (firstAsk l).n, .int .i64 (firstAsk l).d], .int .i64 (firstLen l)]) (by simp [results, Try.results34, go_sem, K1.out, K2.out, Ask.zero]) rfl ⟨rfl, ext_of (by (try simp only [ext_ext]); repeat (first | exact Bel.refl _ | assumption | refine bel_and ?_ _ | refine bel_drews ?_ _ | refine Bel.ext ?_ _ | refine Bel.alloc ?_ _ | refine Bel.drewN ?_ _))⟩

set_option maxHeartbeats 1000000 in
theorem ref36Decode_any (A : Option Addr) (c : Nat) (l : List UInt8) (w : World) (hs : Sl w 1 A l.length c (vb l)) (hl : l.length ≤ 1000000) :
    Calls Try.prog 13 #[.slice A l.length c] w fun e w' => e = .returned (.tuple #[.agg #[.int .u8 (decAsk l).k, .int .i64 (decAsk l).i, .int .i64 (decAsk l).a, .int .i64 (decAsk l).b, .int .i64 (decAsk l).j, .int .i64 (decAsk l).n, .int .i64 (decAsk l).d], .int .i64 (decLen l), .int .i64 (decErr l)]) ∧ ∃ x, w' = ext w x := by
  have D1 := Lib.hid (@dec_many l)
  have D2 := Lib.hid (@dec_none l)
  have D3 := Lib.hid (@dec_some l)
  by_cases h1 : 1100 < l.length
  · go_enter Try.func13, Try.ntmps13
    go_wp2
    exact bodyPost_ret (v := .tuple #[.agg #[.int .u8 (decAsk l).k, .int .i64 (decAsk l).i, .int .i64 (decAsk l).a, .int .i64 (decAsk l).b, .int .i64 (decAsk l).j, .int .i64 (decAsk l).n, .int .i64 (decAsk l).d], .int .i64 (decLen l), .int .i64 (decErr l)]) (by simp [results, Try.results13, go_sem, (D1.out h1).1, (D1.out h1).2.1, (D1.out h1).2.2, Ask.zero]) rfl ⟨rfl, ext_of (by (try simp only [ext_ext]); repeat (first | exact Bel.refl _ | assumption | refine bel_and ?_ _ | refine bel_drews ?_ _ | refine Bel.ext ?_ _ | refine Bel.alloc ?_ _ | refine Bel.drewN ?_ _))⟩
  · have hq := Lib.hid (first_any A c l)
    by_cases h2 : firstLen l = 0
    · have h2' : ((firstLen l : Int) == 0) = true := by rw [beq_iff_eq]; omega
      have H2 := Lib.hid h2; clear h2
      go_enter Try.func13, Try.ntmps13
      go_wp2_with (go_at_call 34; refine (hq.out _ (hs.bel (by (try simp only [ext_ext]); repeat (first | exact Bel.refl _ | assumption | refine bel_and ?_ _ | refine bel_drews ?_ _ | refine Bel.ext ?_ _ | refine Bel.alloc ?_ _ | refine Bel.drewN ?_ _))) hl).mono ?_; rintro e _ ⟨rfl, x1, rfl⟩)
      exact bodyPost_ret (v := .tuple #[.agg #[.int .u8 (decAsk l).k, .int .i64 (decAsk l).i, .int .i64 (decAsk l).a, .int .i64 (decAsk l).b, .int .i64 (decAsk l).j, .int .i64 (decAsk l).n, .int .i64 (decAsk l).d], .int .i64 (decLen l), .int .i64 (decErr l)]) (by simp [results, Try.results13, go_sem, (D2.out (by omega) H2.out).1, (D2.out (by omega) H2.out).2.1, (D2.out (by omega) H2.out).2.2, Ask.zero]) rfl ⟨rfl, ext_of (by (try simp only [ext_ext]); repeat (first | exact Bel.refl _ | assumption | refine bel_and ?_ _ | refine bel_drews ?_ _ | refine Bel.ext ?_ _ | refine Bel.alloc ?_ _ | refine Bel.drewN ?_ _))⟩
    · have h2' : ((firstLen l : Int) == 0) = false := by rw [beq_eq_false_iff_ne]; omega
      have H2 := Lib.hid h2; clear h2
      go_enter Try.func13, Try.ntmps13
      go_wp2_with (go_at_call 34; refine (hq.out _ (hs.bel (by (try simp only [ext_ext]); repeat (first | exact Bel.refl _ | assumption | refine bel_and ?_ _ | refine bel_drews ?_ _ | refine Bel.ext ?_ _ | refine Bel.alloc ?_ _ | refine Bel.drewN ?_ _))) hl).mono ?_; rintro e _ ⟨rfl, x1, rfl⟩)
      exact bodyPost_ret (v := .tuple #[.agg #[.int .u8 (decAsk l).k, .int .i64 (decAsk l).i, .int .i64 (decAsk l).a, .int .i64 (decAsk l).b, .int .i64 (decAsk l).j, .int .i64 (decAsk l).n, .int .i64 (decAsk l).d], .int .i64 (decLen l), .int .i64 (decErr l)]) (by simp [results, Try.results13, go_sem, (D3.out (by omega) H2.out).1, (D3.out (by omega) H2.out).2.1, (D3.out (by omega) H2.out).2.2]) rfl ⟨rfl, ext_of (by (try simp only [ext_ext]); repeat (first | exact Bel.refl _ | assumption | refine bel_and ?_ _ | refine bel_drews ?_ _ | refine Bel.ext ?_ _ | refine Bel.alloc ?_ _ | refine Bel.drewN ?_ _))⟩

set_option maxHeartbeats 1000000 in
theorem ref36Encode_any (k i a b j n d : Int) (w : World) (hn : -9223372036854775808 ≤ n ∧ n ≤ 9223372036854775807) (hd : -9223372036854775808 ≤ d ∧ d ≤ 9223372036854775807) :
    Calls Try.prog 11 #[.agg #[.int .u8 k, .int .i64 i, .int .i64 a, .int .i64 b, .int .i64 j, .int .i64 n, .int .i64 d]] w fun e w' => ∃ A c, e = .returned (.tuple #[.slice A (encBytes k i a b j n d).length c, .int .i64 (askChk k i a b j n d)]) ∧ ∃ x, w' = ext w x ∧ Own (ext w x) w.heap.size 5 1 A (encBytes k i a b j n d).length c (vb (encBytes k i a b j n d)) := by
  obtain ⟨hn1, hn2⟩ := hn; obtain ⟨hd1, hd2⟩ := hd
  have hq := Lib.hid (bytes_any k i a b j n d)
  have E1 := Lib.hid (@encBytes_yes k i a b j n d)
  have E2 := Lib.hid (@encBytes_no k i a b j n d)
  have E3 := Lib.hid (askBytes_length k i a b j n d)
  rcases askChk_cases k i a b j n d with e0 | e0
  · have EH := Lib.hid e0
    go_enter Try.func11, Try.ntmps11
    go_wp2_with (first | (go_at_call 15; refine (e0 ▸ ref36Check_any _ _ _ _ _ _ _ _ (by omega) (by omega)).mono ?_; rintro e _ ⟨rfl, nx, rfl⟩) | (go_at_call 31; refine (hq.out _ EH.out).mono ?_; rintro e _ ⟨A5, c5, rfl, x5, rfl, hown5⟩))
    go_ret2
    rw [E1.out EH.out, E3.out, EH.out]
    exact ⟨_, _, rfl, own_ret (by (try simp only [ext_ext]); repeat (first | exact Bel.refl _ | assumption | refine bel_and ?_ _ | refine bel_drews ?_ _ | refine Bel.ext ?_ _ | refine Bel.alloc ?_ _ | refine Bel.drewN ?_ _)) hown5 (by (try simp only [ext_ext]); repeat (first | exact Bel.refl _ | assumption | refine bel_and ?_ _ | refine bel_drews ?_ _ | refine Bel.ext ?_ _ | refine Bel.alloc ?_ _ | refine Bel.drewN ?_ _)) (by simp [go_sem])⟩
  · have EH := Lib.hid e0
    go_enter Try.func11, Try.ntmps11
    go_wp2_with (first | (go_at_call 15; refine (e0 ▸ ref36Check_any _ _ _ _ _ _ _ _ (by omega) (by omega)).mono ?_; rintro e _ ⟨rfl, nx, rfl⟩))
    go_ret2
    rw [E2.out EH.out, EH.out]
    exact ⟨_, _, rfl, own_ret (by (try simp only [ext_ext]); repeat (first | exact Bel.refl _ | assumption | refine bel_and ?_ _ | refine bel_drews ?_ _ | refine Bel.ext ?_ _ | refine Bel.alloc ?_ _ | refine Bel.drewN ?_ _)) (Own.nil_ w w.heap.size _ _) (by (try simp only [ext_ext]); repeat (first | exact Bel.refl _ | assumption | refine bel_and ?_ _ | refine bel_drews ?_ _ | refine Bel.ext ?_ _ | refine Bel.alloc ?_ _ | refine Bel.drewN ?_ _)) (Nat.le_refl _)⟩
end Go.Proofs.Ytijinelgbiombaa
