/- decode.scan and decode.Decode on whatever bytes. -/
import Derived.Test.YtijinelgbiombaaDec13
import Derived.Test.YtijinelgbiombaaDec14
import Derived.Test.YtijinelgbiombaaDec15
import Derived.Test.YtijinelgbiombaaDec16
set_option linter.unusedSimpArgs false
set_option linter.unusedVariables false
namespace Go.Proofs.Ytijinelgbiombaa
open Go.RowKit Go.Pel
set_option maxRecDepth 10000 in
set_option maxHeartbeats 4000000 in
theorem scan_bare (b o c : Nat) (l : List UInt8) (w : World) (hs : Sl w 1 (some ⟨b, o, none⟩) l.length c (vb l)) (hb : b < w.heap.size) (hl : l.length ≤ 1000000) (x : UInt8) (hx : l[0]? = some x) (k : Int) (hk : (x.toNat : Int) = k) (h56 : k = 5 ∨ k = 6) (hlen : 1 ≤ l.length) :
    Calls Try.prog 32 #[.slice (some ⟨b, o, none⟩) l.length c] w (ScanPost l w) := by
  have hb' := Nat.le_of_lt hb
  have hcell := sl_byte hs hx
  rw [Nat.add_zero, hk] at hcell
  have hcap := hs.cap
  have HF := Lib.hid (firstOk_chk hx (by have : askLen (x.toNat : Int) = 1 := askLen_bare (by omega)
                                         omega))
  have HP : plainAsk l = ⟨k, 0, 0, 0, 0, 0, 0⟩ := by rw [plainAsk_bare hx (by omega), hk]
  have HP := Lib.hid HP
  have z0 : ((l.length : Int) == 0) = false := by rw [beq_eq_false_iff_ne]; omega
  have f1 : (1 : Int) ≤ (l.length : Int) := by omega
  have f2 : 0 < l.length := by omega
  have e0 : askChk k 0 0 0 0 0 0 = 0 := askChk_bare h56 (by omega)
  have E0 := Lib.hid e0
  clear hk hx
  by_cases hc1 : c = 1
  all_goals (try subst hc1)
  all_goals rcases h56 with rfl | rfl
  · go_enter Try.func32, Try.ntmps32
    go_wp2
    refine RegC.wp_scope_passes 0 4 rfl ?_
    go_wp2_with (go_at_call 33; refine (size_bare 5 _ (by omega)).mono ?_; rintro e _ ⟨rfl, nx, rfl⟩)
    go_region_held3 (fun w' => w'.cell? ⟨b, o, none⟩ = some (.int .u8 5)) (simp [go_sem, *]) ((go_at_call 29; refine (fields_exact _).mono ?_; rintro e _ ⟨rfl, rfl⟩))
    all_goals go_wp2
    all_goals (
      go_step3
      go_wp2
      go_region_held3 (fun w' => w'.cell? ⟨w.heap.size + 1 + nx.len, 0, none⟩ = some (.int .u8 5) ∧ w'.cell? ⟨w.heap.size + 1 + nx.len, 1, none⟩ = some (.int .i64 0) ∧ w'.cell? ⟨w.heap.size + 1 + nx.len, 2, none⟩ = some (.int .i64 0) ∧ w'.cell? ⟨w.heap.size + 1 + nx.len, 3, none⟩ = some (.int .i64 0) ∧ w'.cell? ⟨w.heap.size + 1 + nx.len, 4, none⟩ = some (.int .i64 0) ∧ w'.cell? ⟨w.heap.size + 1 + nx.len, 5, none⟩ = some (.int .i64 0) ∧ w'.cell? ⟨w.heap.size + 1 + nx.len, 6, none⟩ = some (.int .i64 0)) (simp [go_sem]) ((go_at_call 14; refine (e0 ▸ decCheck_any _ _ _ _ _ _ _ _ (by omega) (by omega)).mono ?_; rintro e _ ⟨rfl, nx, rfl⟩))
      go_wp2
      simp only [Exit.jump]
      exact bodyPost_ret (v := .tuple #[.agg #[.int .u8 5, .int .i64 0, .int .i64 0, .int .i64 0, .int .i64 0, .int .i64 0, .int .i64 0], .bool true]) (by simp [results, Try.results32, go_sem]) rfl (scanPost_ok HF.out HP.out E0.out (by (try simp only [ext_ext]); repeat (first | exact Bel.refl _ | assumption | refine bel_and ?_ _ | refine bel_drews ?_ _ | refine Bel.ext ?_ _ | refine Bel.alloc ?_ _ | refine Bel.drewN ?_ _))))
  · go_enter Try.func32, Try.ntmps32
    go_wp2
    refine RegC.wp_scope_passes 0 4 rfl ?_
    go_wp2_with (go_at_call 33; refine (size_bare 6 _ (by omega)).mono ?_; rintro e _ ⟨rfl, nx, rfl⟩)
    go_region_held3 (fun w' => w'.cell? ⟨b, o, none⟩ = some (.int .u8 6)) (simp [go_sem, *]) ((go_at_call 29; refine (fields_exact _).mono ?_; rintro e _ ⟨rfl, rfl⟩))
    all_goals go_wp2
    all_goals (
      go_step3
      go_wp2
      go_region_held3 (fun w' => w'.cell? ⟨w.heap.size + 1 + nx.len, 0, none⟩ = some (.int .u8 6) ∧ w'.cell? ⟨w.heap.size + 1 + nx.len, 1, none⟩ = some (.int .i64 0) ∧ w'.cell? ⟨w.heap.size + 1 + nx.len, 2, none⟩ = some (.int .i64 0) ∧ w'.cell? ⟨w.heap.size + 1 + nx.len, 3, none⟩ = some (.int .i64 0) ∧ w'.cell? ⟨w.heap.size + 1 + nx.len, 4, none⟩ = some (.int .i64 0) ∧ w'.cell? ⟨w.heap.size + 1 + nx.len, 5, none⟩ = some (.int .i64 0) ∧ w'.cell? ⟨w.heap.size + 1 + nx.len, 6, none⟩ = some (.int .i64 0)) (simp [go_sem]) ((go_at_call 14; refine (e0 ▸ decCheck_any _ _ _ _ _ _ _ _ (by omega) (by omega)).mono ?_; rintro e _ ⟨rfl, nx, rfl⟩))
      go_wp2
      simp only [Exit.jump]
      exact bodyPost_ret (v := .tuple #[.agg #[.int .u8 6, .int .i64 0, .int .i64 0, .int .i64 0, .int .i64 0, .int .i64 0, .int .i64 0], .bool true]) (by simp [results, Try.results32, go_sem]) rfl (scanPost_ok HF.out HP.out E0.out (by (try simp only [ext_ext]); repeat (first | exact Bel.refl _ | assumption | refine bel_and ?_ _ | refine bel_drews ?_ _ | refine Bel.ext ?_ _ | refine Bel.alloc ?_ _ | refine Bel.drewN ?_ _))))
  · go_enter Try.func32, Try.ntmps32
    go_wp2
    refine RegC.wp_scope_passes 0 4 rfl ?_
    go_wp2_with (go_at_call 33; refine (size_bare 5 _ (by omega)).mono ?_; rintro e _ ⟨rfl, nx, rfl⟩)
    go_region_held3 (fun w' => w'.cell? ⟨b, o, none⟩ = some (.int .u8 5)) (simp [go_sem, *]) ((go_at_call 29; refine (fields_exact _).mono ?_; rintro e _ ⟨rfl, rfl⟩))
    all_goals go_wp2
    all_goals (
      go_step3
      go_wp2
      go_region_held3 (fun w' => w'.cell? ⟨w.heap.size + 1 + nx.len, 0, none⟩ = some (.int .u8 5) ∧ w'.cell? ⟨w.heap.size + 1 + nx.len, 1, none⟩ = some (.int .i64 0) ∧ w'.cell? ⟨w.heap.size + 1 + nx.len, 2, none⟩ = some (.int .i64 0) ∧ w'.cell? ⟨w.heap.size + 1 + nx.len, 3, none⟩ = some (.int .i64 0) ∧ w'.cell? ⟨w.heap.size + 1 + nx.len, 4, none⟩ = some (.int .i64 0) ∧ w'.cell? ⟨w.heap.size + 1 + nx.len, 5, none⟩ = some (.int .i64 0) ∧ w'.cell? ⟨w.heap.size + 1 + nx.len, 6, none⟩ = some (.int .i64 0)) (simp [go_sem]) ((go_at_call 14; refine (e0 ▸ decCheck_any _ _ _ _ _ _ _ _ (by omega) (by omega)).mono ?_; rintro e _ ⟨rfl, nx, rfl⟩))
      go_wp2
      simp only [Exit.jump]
      exact bodyPost_ret (v := .tuple #[.agg #[.int .u8 5, .int .i64 0, .int .i64 0, .int .i64 0, .int .i64 0, .int .i64 0, .int .i64 0], .bool true]) (by simp [results, Try.results32, go_sem]) rfl (scanPost_ok HF.out HP.out E0.out (by (try simp only [ext_ext]); repeat (first | exact Bel.refl _ | assumption | refine bel_and ?_ _ | refine bel_drews ?_ _ | refine Bel.ext ?_ _ | refine Bel.alloc ?_ _ | refine Bel.drewN ?_ _))))
  · go_enter Try.func32, Try.ntmps32
    go_wp2
    refine RegC.wp_scope_passes 0 4 rfl ?_
    go_wp2_with (go_at_call 33; refine (size_bare 6 _ (by omega)).mono ?_; rintro e _ ⟨rfl, nx, rfl⟩)
    go_region_held3 (fun w' => w'.cell? ⟨b, o, none⟩ = some (.int .u8 6)) (simp [go_sem, *]) ((go_at_call 29; refine (fields_exact _).mono ?_; rintro e _ ⟨rfl, rfl⟩))
    all_goals go_wp2
    all_goals (
      go_step3
      go_wp2
      go_region_held3 (fun w' => w'.cell? ⟨w.heap.size + 1 + nx.len, 0, none⟩ = some (.int .u8 6) ∧ w'.cell? ⟨w.heap.size + 1 + nx.len, 1, none⟩ = some (.int .i64 0) ∧ w'.cell? ⟨w.heap.size + 1 + nx.len, 2, none⟩ = some (.int .i64 0) ∧ w'.cell? ⟨w.heap.size + 1 + nx.len, 3, none⟩ = some (.int .i64 0) ∧ w'.cell? ⟨w.heap.size + 1 + nx.len, 4, none⟩ = some (.int .i64 0) ∧ w'.cell? ⟨w.heap.size + 1 + nx.len, 5, none⟩ = some (.int .i64 0) ∧ w'.cell? ⟨w.heap.size + 1 + nx.len, 6, none⟩ = some (.int .i64 0)) (simp [go_sem]) ((go_at_call 14; refine (e0 ▸ decCheck_any _ _ _ _ _ _ _ _ (by omega) (by omega)).mono ?_; rintro e _ ⟨rfl, nx, rfl⟩))
      go_wp2
      simp only [Exit.jump]
      exact bodyPost_ret (v := .tuple #[.agg #[.int .u8 6, .int .i64 0, .int .i64 0, .int .i64 0, .int .i64 0, .int .i64 0, .int .i64 0], .bool true]) (by simp [results, Try.results32, go_sem]) rfl (scanPost_ok HF.out HP.out E0.out (by (try simp only [ext_ext]); repeat (first | exact Bel.refl _ | assumption | refine bel_and ?_ _ | refine bel_drews ?_ _ | refine Bel.ext ?_ _ | refine Bel.alloc ?_ _ | refine Bel.drewN ?_ _))))

theorem scan_any (A : Option Addr) (c : Nat) (l : List UInt8) (w : World) (hs : Sl w 1 A l.length c (vb l)) (hl : l.length ≤ 1000000) :
    Calls Try.prog 32 #[.slice A l.length c] w (ScanPost l w) := by
  by_cases hbad : l.length = 0 ∨ ∃ x, l[0]? = some x ∧ (((x.toNat : Int) < 1 ∨ 6 < (x.toNat : Int)) ∨ l.length < askLen x.toNat)
  · exact scan_no A c l w hs hl hbad
  · have h0 : 0 < l.length := Nat.pos_of_ne_zero fun h => hbad (.inl h)
    obtain ⟨x, hx⟩ : ∃ x, l[0]? = some x := ⟨_, List.getElem?_eq_getElem h0⟩
    obtain ⟨b, o, rfl, hb⟩ := hs.at_ h0
    have h1 : ¬ ((x.toNat : Int) < 1 ∨ 6 < (x.toNat : Int)) := fun h => hbad (.inr ⟨x, hx, .inl h⟩)
    have h2 : askLen x.toNat ≤ l.length := Nat.le_of_not_lt fun h => hbad (.inr ⟨x, hx, .inr h⟩)
    rcases (by omega : (x.toNat : Int) = 1 ∨ (x.toNat : Int) = 2 ∨ (x.toNat : Int) = 3 ∨ (x.toNat : Int) = 4 ∨ ((x.toNat : Int) = 5 ∨ (x.toNat : Int) = 6)) with hk | hk | hk | hk | hk
    · rw [hk] at h2; exact scan_put1 b o c l w hs hb hl x hx hk h2
    · rw [hk] at h2; exact scan_take b o c l w hs hb hl x hx hk h2
    · rw [hk] at h2; exact scan_put3 b o c l w hs hb hl x hx hk h2
    · rw [hk] at h2; exact scan_move b o c l w hs hb hl x hx hk h2
    · exact scan_bare b o c l w hs hb hl x hx _ rfl hk h0

set_option maxRecDepth 10000 in
set_option maxHeartbeats 1000000 in
theorem decode_any (A : Option Addr) (c : Nat) (l : List UInt8) (w : World) (hs : Sl w 1 A l.length c (vb l)) (hl : l.length ≤ 1000000) :
    Calls Try.prog 12 #[.slice A l.length c] w fun e w' => e = .returned (.tuple #[.agg #[.int .u8 (decAsk l).k, .int .i64 (decAsk l).i, .int .i64 (decAsk l).a, .int .i64 (decAsk l).b, .int .i64 (decAsk l).j, .int .i64 (decAsk l).n, .int .i64 (decAsk l).d], .int .i64 (decLen l), .int .i64 (decErr l)]) ∧ ∃ x, w' = ext w x := by
  have D1 := Lib.hid (@dec_many l)
  have D2 := Lib.hid (@dec_none l)
  have D3 := Lib.hid (@dec_some l)
  by_cases h1 : 1100 < l.length
  · go_enter Try.func12, Try.ntmps12
    go_wp2
    exact bodyPost_ret (v := .tuple #[.agg #[.int .u8 (decAsk l).k, .int .i64 (decAsk l).i, .int .i64 (decAsk l).a, .int .i64 (decAsk l).b, .int .i64 (decAsk l).j, .int .i64 (decAsk l).n, .int .i64 (decAsk l).d], .int .i64 (decLen l), .int .i64 (decErr l)]) (by simp [results, Try.results12, go_sem, (D1.out h1).1, (D1.out h1).2.1, (D1.out h1).2.2, Ask.zero]) rfl ⟨rfl, ext_of (by (try simp only [ext_ext]); repeat (first | exact Bel.refl _ | assumption | refine bel_and ?_ _ | refine bel_drews ?_ _ | refine Bel.ext ?_ _ | refine Bel.alloc ?_ _ | refine Bel.drewN ?_ _))⟩
  · have hq := Lib.hid (scan_any A c l)
    cases hf : firstOk l
    · have h2 := Lib.hid (firstLen_no hf)
      have HF := Lib.hid hf
      clear hf
      go_enter Try.func12, Try.ntmps12
      go_wp2_with fail
      refine (hq.out _ (hs.bel (by (try simp only [ext_ext]); repeat (first | exact Bel.refl _ | assumption | refine bel_and ?_ _ | refine bel_drews ?_ _ | refine Bel.ext ?_ _ | refine Bel.alloc ?_ _ | refine Bel.drewN ?_ _))) hl).mono ?_
      rintro e _ ⟨k, i, a, b, j, n, d, rfl, hp, x1, rfl⟩
      rw [HF.out]
      clear hp
      go_wp2
      exact bodyPost_ret (v := .tuple #[.agg #[.int .u8 (decAsk l).k, .int .i64 (decAsk l).i, .int .i64 (decAsk l).a, .int .i64 (decAsk l).b, .int .i64 (decAsk l).j, .int .i64 (decAsk l).n, .int .i64 (decAsk l).d], .int .i64 (decLen l), .int .i64 (decErr l)]) (by simp [results, Try.results12, go_sem, (D2.out (by omega) h2.out).1, (D2.out (by omega) h2.out).2.1, (D2.out (by omega) h2.out).2.2, Ask.zero]) rfl ⟨rfl, ext_of (by (try simp only [ext_ext]); repeat (first | exact Bel.refl _ | assumption | refine bel_and ?_ _ | refine bel_drews ?_ _ | refine Bel.ext ?_ _ | refine Bel.alloc ?_ _ | refine Bel.drewN ?_ _))⟩
    · have HL := Lib.hid (firstLen_yes hf)
      have HA := Lib.hid (firstAsk_yes hf)
      have HF := Lib.hid hf
      have hpos := (askLen_pos (plainAsk l).k).1
      have HN : ¬ firstLen l = 0 := by rw [HL.out]; omega
      have HN := Lib.hid HN
      have hk16 : 1 ≤ (plainAsk l).k ∧ (plainAsk l).k ≤ 6 := by
        unfold firstOk at hf
        simp only [decide_eq_true_eq] at hf
        rcases askChk_zero hf.2.1 with ⟨h, _⟩ | ⟨h, _⟩ | ⟨h, _⟩ | ⟨h, _⟩ <;> omega
      have HK := Lib.hid hk16
      clear hf hk16 hpos
      go_enter Try.func12, Try.ntmps12
      go_wp2_with fail
      refine (hq.out _ (hs.bel (by (try simp only [ext_ext]); repeat (first | exact Bel.refl _ | assumption | refine bel_and ?_ _ | refine bel_drews ?_ _ | refine Bel.ext ?_ _ | refine Bel.alloc ?_ _ | refine Bel.drewN ?_ _))) hl).mono ?_
      rintro e _ ⟨k, i, a, b, j, n, d, rfl, hp, x1, rfl⟩
      rw [HF.out]
      have hp' := Lib.hid (hp HF.out)
      have hk1 : 1 ≤ k ∧ k ≤ 6 := by have h := HK.out; rw [← hp'.out] at h; exact h
      clear hp
      obtain ⟨hk1, hk2⟩ := hk1
      go_wp2
      go_region_held3 (fun w' => w'.cell? ⟨w.heap.size + 1 + x1.len, 0, none⟩ = some (.int .u8 ((⟨k, i, a, b, j, n, d⟩ : Pel.Ask)).k) ∧ w'.cell? ⟨w.heap.size + 1 + x1.len, 1, none⟩ = some (.int .i64 ((⟨k, i, a, b, j, n, d⟩ : Pel.Ask)).i) ∧ w'.cell? ⟨w.heap.size + 1 + x1.len, 2, none⟩ = some (.int .i64 ((⟨k, i, a, b, j, n, d⟩ : Pel.Ask)).a) ∧ w'.cell? ⟨w.heap.size + 1 + x1.len, 3, none⟩ = some (.int .i64 ((⟨k, i, a, b, j, n, d⟩ : Pel.Ask)).b) ∧ w'.cell? ⟨w.heap.size + 1 + x1.len, 4, none⟩ = some (.int .i64 ((⟨k, i, a, b, j, n, d⟩ : Pel.Ask)).j) ∧ w'.cell? ⟨w.heap.size + 1 + x1.len, 5, none⟩ = some (.int .i64 ((⟨k, i, a, b, j, n, d⟩ : Pel.Ask)).n) ∧ w'.cell? ⟨w.heap.size + 1 + x1.len, 6, none⟩ = some (.int .i64 ((⟨k, i, a, b, j, n, d⟩ : Pel.Ask)).d)) (simp [go_sem]) ((go_at_call 33; refine (decSize_any _ _ (by omega) (by omega)).mono ?_; rintro e _ ⟨rfl, nx, rfl⟩))
      go_wp2
      have X1 : decAsk l = ⟨k, i, a, b, j, n, d⟩ := by rw [(D3.out (by omega) HN.out).1, HA.out, hp'.out]
      have X2 : decLen l = askLen k := by rw [(D3.out (by omega) HN.out).2.1, HL.out, ← hp'.out]
      have X3 : decErr l = 0 := (D3.out (by omega) HN.out).2.2
      exact bodyPost_ret (v := .tuple #[.agg #[.int .u8 (decAsk l).k, .int .i64 (decAsk l).i, .int .i64 (decAsk l).a, .int .i64 (decAsk l).b, .int .i64 (decAsk l).j, .int .i64 (decAsk l).n, .int .i64 (decAsk l).d], .int .i64 (decLen l), .int .i64 (decErr l)]) (by simp [results, Try.results12, go_sem, X1, X2, X3]) rfl ⟨rfl, ext_of (by (try simp only [ext_ext]); repeat (first | exact Bel.refl _ | assumption | refine bel_and ?_ _ | refine bel_drews ?_ _ | refine Bel.ext ?_ _ | refine Bel.alloc ?_ _ | refine Bel.drewN ?_ _))⟩
end Go.Proofs.Ytijinelgbiombaa
