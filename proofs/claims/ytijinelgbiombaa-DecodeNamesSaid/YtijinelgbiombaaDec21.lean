/- decode.Read. -/
import Derived.Test.YtijinelgbiombaaDec17
import Derived.Test.YtijinelgbiombaaDec19
import Derived.Test.YtijinelgbiombaaMem2
set_option linter.unusedSimpArgs false
set_option linter.unusedVariables false
namespace Go.Proofs.Ytijinelgbiombaa
open Go.RowKit Go.Pel
theorem slt_asks : SlT Try.prog 43 27 (.agg #[.int .u8 0, .int .i64 0, .int .i64 0, .int .i64 0, .int .i64 0, .int .i64 0, .int .i64 0]) 7 56 := ⟨by kernel_rfl, by kernel_rfl, by kernel_rfl, by decide, by decide⟩
theorem sl_rest {w : World} {b o n c k : Nat} {l : List UInt8} (h : Sl w 1 (some ⟨b, o, none⟩) n c (vb l)) (hk : k ≤ n) (hc : ¬ c = k) : Sl w 1 (some ⟨b, o + k, none⟩) (n - k) (c - k) (vb (l.drop k)) := by
  have := h.drop hk
  rw [Nat.mul_one] at this
  rwa [show vb (l.drop k) = (vb l).drop k by simp [vb]]
set_option maxRecDepth 10000 in
set_option maxHeartbeats 4000000 in
theorem read_any (A : Option Addr) (c : Nat) (l : List UInt8) (w : World) (hs : Sl w 1 A l.length c (vb l)) (hl : l.length ≤ 1000000) :
    Calls Try.prog 19 #[.slice A l.length c] w fun e w' => ∃ A' c', e = .returned (.tuple #[.slice A' (rd l).1.length c', .int .i64 (rd l).2]) ∧ ∃ x, w' = ext w x ∧ Own (ext w x) w.heap.size 27 7 A' (rd l).1.length c' (va (rd l).1) := by
  by_cases hm : 1100 < l.length
  · have E1 := Lib.hid (rd_many hm)
    go_enter Try.func19, Try.ntmps19
    go_wp2
    go_ret2
    rw [E1.out]
    exact ⟨_, _, rfl, own_ret (by (try simp only [ext_ext]); repeat (first | exact Bel.refl _ | assumption | refine bel_and ?_ _ | refine bel_drews ?_ _ | refine Bel.ext ?_ _ | refine Bel.alloc ?_ _ | refine Bel.drewN ?_ _)) (Own.nil_ w w.heap.size _ _) (by (try simp only [ext_ext]); repeat (first | exact Bel.refl _ | assumption | refine bel_and ?_ _ | refine bel_drews ?_ _ | refine Bel.ext ?_ _ | refine Bel.alloc ?_ _ | refine Bel.drewN ?_ _)) (Nat.le_refl _)⟩
  · have E1 := Lib.hid (rd_go (l := l) (by omega))
    go_enter Try.func19, Try.ntmps19
    go_wp2
    go_loopw [0, 4] (fun s v wr' => ∃ (f : Nat) (B : Option Addr) (cb : Nat) (r : List UInt8) (A' : Option Addr) (c' : Nat) (acc : List Pel.Ask) (y : Beyond), r.length ≤ f ∧ r.length ≤ l.length ∧ s = .slice B r.length cb ∧ Sl w 1 B r.length cb (vb r) ∧ v = .slice A' acc.length c' ∧ acc.length ≤ 120 ∧ rdGo f r acc = rdGo l.length l [] ∧ wr' = ext w y ∧ Own wr' w.heap.size 27 7 A' acc.length c' (va acc)) (fun s _ _ => match s with | .slice _ n _ => n | _ => 0)
    case atStart => obtain ⟨y, hy⟩ := ext_of (Bel.refl w); exact ⟨l.length, A, c, l, none, 0, [], y, Nat.le_refl _, Nat.le_refl _, rfl, hs, rfl, by simp, rfl, hy, Own.nil_ _ _ _ _⟩
    case round =>
      obtain ⟨f, B, cb, r, A', c', acc, y, hf, hrl, rfl, hsr, rfl, hacc, hgo, rfl, hown⟩ := hrel
      have HG := Lib.hid hgo; clear hgo
      by_cases h0 : 0 < r.length
      · obtain ⟨f, rfl⟩ : ∃ f', f = f' + 1 := ⟨f - 1, by omega⟩
        have hne : r ≠ [] := by rintro rfl; simp at h0
        have HNE := Lib.hid hne; clear hne
        have hq := Lib.hid (scan_any B cb r)
        cases hfo : firstOk r
        · have HF := Lib.hid hfo
          clear hfo
          have e3 : rd l = ([], 12) := by rw [E1.out, ← HG.out, rdGo_bad HNE.out (.inl HF.out)]
          have HE := Lib.hid e3
          clear e3
          go_wp2_with fail
          refine (hq.out _ (hsr.bel (by (try simp only [ext_ext]); repeat (first | exact Bel.refl _ | assumption | refine bel_and ?_ _ | refine bel_drews ?_ _ | refine Bel.ext ?_ _ | refine Bel.alloc ?_ _ | refine Bel.drewN ?_ _))) (by omega)).mono ?_
          rintro e _ ⟨k, i, a, b, j, n, d, rfl, hp, x1, rfl⟩
          rw [HF.out]
          clear hp
          go_wp2
          go_ret2
          rw [HE.out]
          exact ⟨_, _, rfl, own_ret (by (try simp only [ext_ext]); repeat (first | exact Bel.refl _ | assumption | refine bel_and ?_ _ | refine bel_drews ?_ _ | refine Bel.ext ?_ _ | refine Bel.alloc ?_ _ | refine Bel.drewN ?_ _)) (Own.nil_ w w.heap.size _ _) (by (try simp only [ext_ext]); repeat (first | exact Bel.refl _ | assumption | refine bel_and ?_ _ | refine bel_drews ?_ _ | refine Bel.ext ?_ _ | refine Bel.alloc ?_ _ | refine Bel.drewN ?_ _)) (Nat.le_refl _)⟩
        · have HF := Lib.hid hfo
          obtain ⟨hfl, hfc⟩ := firstOk_len hfo
          have HL := Lib.hid (firstLen_yes hfo)
          have HA := Lib.hid (firstAsk_yes hfo)
          have hk := chk_kind hfc
          clear hfo hfc
          by_cases h120 : acc.length = 120
          · have e3 : rd l = ([], 12) := by rw [E1.out, ← HG.out, rdGo_bad HNE.out (.inr h120)]
            have HE := Lib.hid e3
            clear e3
            go_wp2_with fail
            refine (hq.out _ (hsr.bel (by (try simp only [ext_ext]); repeat (first | exact Bel.refl _ | assumption | refine bel_and ?_ _ | refine bel_drews ?_ _ | refine Bel.ext ?_ _ | refine Bel.alloc ?_ _ | refine Bel.drewN ?_ _))) (by omega)).mono ?_
            rintro e _ ⟨k, i, a, b, j, n, d, rfl, hp, x1, rfl⟩
            rw [HF.out]
            clear hp
            go_wp2
            go_ret2
            rw [HE.out]
            exact ⟨_, _, rfl, own_ret (by (try simp only [ext_ext]); repeat (first | exact Bel.refl _ | assumption | refine bel_and ?_ _ | refine bel_drews ?_ _ | refine Bel.ext ?_ _ | refine Bel.alloc ?_ _ | refine Bel.drewN ?_ _)) (Own.nil_ w w.heap.size _ _) (by (try simp only [ext_ext]); repeat (first | exact Bel.refl _ | assumption | refine bel_and ?_ _ | refine bel_drews ?_ _ | refine Bel.ext ?_ _ | refine Bel.alloc ?_ _ | refine Bel.drewN ?_ _)) (Nat.le_refl _)⟩
          · have hpos := askLen_pos (plainAsk r).k
            have HOK := Lib.hid (rdGo_ok (f := f) HF.out h120)
            generalize hp0 : plainAsk r = p at *
            have HP := Lib.hid hp0; clear hp0
            have f1 : (askLen p.k : Int) ≤ (r.length : Int) := by omega
            have f2 : (askLen p.k : Int) ≤ (cb : Int) := by have := hsr.cap; omega
            have f3 : askLen p.k ≤ cb := by omega
            go_wp2_with fail
            refine (hq.out _ (hsr.bel (by (try simp only [ext_ext]); repeat (first | exact Bel.refl _ | assumption | refine bel_and ?_ _ | refine bel_drews ?_ _ | refine Bel.ext ?_ _ | refine Bel.alloc ?_ _ | refine Bel.drewN ?_ _))) (by omega)).mono ?_
            rintro e _ ⟨k, i, a, b', j, n, d, rfl, hp, x1, rfl⟩
            have hp := hp HF.out
            rw [HF.out]
            rw [HP.out] at hp
            subst hp
            obtain ⟨b, o, rfl, hb⟩ := hsr.at_ h0
            dsimp only at *
            have z1 : ((acc.length : Int) == 120) = false := by rw [beq_eq_false_iff_ne]; omega
            have hcap := hsr.cap
            obtain ⟨hk1, hk2⟩ := hk
            by_cases hc : cb = askLen k
            · subst hc
              go_wp2_with (first | ((at_builtin; (try refine wpList_unguard rfl (by first | rfl | simp [yielded]) ?_); refine append1_keep slt_asks (by (try simp only [ext_ext]); repeat (first | exact Bel.refl _ | assumption | refine bel_and ?_ _ | refine bel_drews ?_ _ | refine Bel.ext ?_ _ | refine Bel.alloc ?_ _ | refine Bel.drewN ?_ _)) hown (by (try simp only [ext_ext]); repeat (first | exact Bel.refl _ | assumption | refine bel_and ?_ _ | refine bel_drews ?_ _ | refine Bel.ext ?_ _ | refine Bel.alloc ?_ _ | refine Bel.drewN ?_ _)) (by simp [Value.oneCell']) rfl (by omega) rfl _ _ rfl rfl rfl (by simp [go_sem]) ?_; rintro A6 c6 y6 hown6 hkeep6); have hbox := hkeep6 ⟨w.heap.size + y.len + x1.len, 0, none⟩ (.int .u8 k) (by simp [go_sem]) (by simp [go_sem]) (by simp [go_sem])) | (go_at_call 33; refine (decSize_any _ _ (by omega) (by omega)).mono ?_; rintro e _ ⟨rfl, nx, rfl⟩))
              have he : r.length = askLen k := by omega
              have HD : r.drop (askLen k) = [] := List.drop_eq_nil_of_le (by omega)
              go_roundw
              case rel =>
                refine ⟨f, some ⟨b, o, none⟩, 0, [], A6, c6, acc ++ [⟨k, i, a, b', j, n, d⟩], y6.and nx, Nat.zero_le _, Nat.zero_le _, rfl, Sl.nil_ _ _ _ _, by rw [List.length_append]; rfl, by rw [List.length_append]; simp; omega, ?_, rfl, ?_⟩
                · rw [← HG.out, HOK.out, HL.out, HA.out, HD]
                · rw [List.length_append, va_snoc]; exact hown6.bel (by (try simp only [ext_ext]); repeat (first | exact Bel.refl _ | assumption | refine bel_and ?_ _ | refine bel_drews ?_ _ | refine Bel.ext ?_ _ | refine Bel.alloc ?_ _ | refine Bel.drewN ?_ _))
              case measure => simp only; omega
            · go_wp2_with (first | ((at_builtin; (try refine wpList_unguard rfl (by first | rfl | simp [yielded]) ?_); refine append1_keep slt_asks (by (try simp only [ext_ext]); repeat (first | exact Bel.refl _ | assumption | refine bel_and ?_ _ | refine bel_drews ?_ _ | refine Bel.ext ?_ _ | refine Bel.alloc ?_ _ | refine Bel.drewN ?_ _)) hown (by (try simp only [ext_ext]); repeat (first | exact Bel.refl _ | assumption | refine bel_and ?_ _ | refine bel_drews ?_ _ | refine Bel.ext ?_ _ | refine Bel.alloc ?_ _ | refine Bel.drewN ?_ _)) (by simp [Value.oneCell']) rfl (by omega) rfl _ _ rfl rfl rfl (by simp [go_sem]) ?_; rintro A6 c6 y6 hown6 hkeep6); have hbox := hkeep6 ⟨w.heap.size + y.len + x1.len, 0, none⟩ (.int .u8 k) (by simp [go_sem]) (by simp [go_sem]) (by simp [go_sem])) | (go_at_call 33; refine (decSize_any _ _ (by omega) (by omega)).mono ?_; rintro e _ ⟨rfl, nx, rfl⟩))
              have HS := Lib.hid (sl_rest hsr hfl hc)
              go_roundw
              case rel =>
                refine ⟨f, some ⟨b, o + askLen k, none⟩, cb - askLen k, r.drop (askLen k), A6, c6, acc ++ [⟨k, i, a, b', j, n, d⟩], y6.and nx, by rw [List.length_drop]; omega, by rw [List.length_drop]; omega, by rw [List.length_drop], ?_, by rw [List.length_append]; rfl, by rw [List.length_append]; simp; omega, ?_, rfl, ?_⟩
                · rw [List.length_drop]; exact HS.out.bel (by (try simp only [ext_ext]); repeat (first | exact Bel.refl _ | assumption | refine bel_and ?_ _ | refine bel_drews ?_ _ | refine Bel.ext ?_ _ | refine Bel.alloc ?_ _ | refine Bel.drewN ?_ _))
                · rw [← HG.out, HOK.out, HL.out, HA.out]
                · rw [List.length_append, va_snoc]; exact hown6.bel (by (try simp only [ext_ext]); repeat (first | exact Bel.refl _ | assumption | refine bel_and ?_ _ | refine bel_drews ?_ _ | refine Bel.ext ?_ _ | refine Bel.alloc ?_ _ | refine Bel.drewN ?_ _))
              case measure => simp only; omega
      · obtain rfl : r = [] := List.eq_nil_of_length_eq_zero (by omega)
        have e3 : rd l = (acc, 0) := by rw [E1.out, ← HG.out, rdGo_nil]
        have HE := Lib.hid e3
        clear e3
        go_wp2
        go_ret2
        rw [HE.out]
        exact ⟨_, _, rfl, own_ret (by (try simp only [ext_ext]); repeat (first | exact Bel.refl _ | assumption | refine bel_and ?_ _ | refine bel_drews ?_ _ | refine Bel.ext ?_ _ | refine Bel.alloc ?_ _ | refine Bel.drewN ?_ _)) hown (by (try simp only [ext_ext]); repeat (first | exact Bel.refl _ | assumption | refine bel_and ?_ _ | refine bel_drews ?_ _ | refine Bel.ext ?_ _ | refine Bel.alloc ?_ _ | refine Bel.drewN ?_ _)) (by simp [go_sem])⟩
end Go.Proofs.Ytijinelgbiombaa
