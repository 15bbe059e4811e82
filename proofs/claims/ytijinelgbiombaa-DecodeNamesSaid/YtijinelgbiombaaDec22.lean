/- The reference's Read. -/
import Derived.Test.YtijinelgbiombaaDec21
set_option linter.unusedSimpArgs false
set_option linter.unusedVariables false
namespace Go.Proofs.Ytijinelgbiombaa
open Go.RowKit Go.Pel
set_option maxRecDepth 10000 in
set_option maxHeartbeats 4000000 in
theorem refRead_any (A : Option Addr) (c : Nat) (l : List UInt8) (w : World) (hs : Sl w 1 A l.length c (vb l)) (hl : l.length ≤ 1000000) :
    Calls Try.prog 20 #[.slice A l.length c] w fun e w' => ∃ A' c', e = .returned (.tuple #[.slice A' (rd l).1.length c', .int .i64 (rd l).2]) ∧ ∃ x, w' = ext w x ∧ Own (ext w x) w.heap.size 27 7 A' (rd l).1.length c' (va (rd l).1) := by
  by_cases hm : 1100 < l.length
  · have E1 := Lib.hid (rd_many hm)
    go_enter Try.func20, Try.ntmps20
    go_wp2
    go_ret2
    rw [E1.out]
    exact ⟨_, _, rfl, own_ret (by (try simp only [ext_ext]); repeat (first | exact Bel.refl _ | assumption | refine bel_and ?_ _ | refine bel_drews ?_ _ | refine Bel.ext ?_ _ | refine Bel.alloc ?_ _ | refine Bel.drewN ?_ _)) (Own.nil_ w w.heap.size _ _) (by (try simp only [ext_ext]); repeat (first | exact Bel.refl _ | assumption | refine bel_and ?_ _ | refine bel_drews ?_ _ | refine Bel.ext ?_ _ | refine Bel.alloc ?_ _ | refine Bel.drewN ?_ _)) (Nat.le_refl _)⟩
  · have E1 := Lib.hid (rd_go (l := l) (by omega))
    go_enter Try.func20, Try.ntmps20
    go_wp2
    go_loopw [4, 5] (fun v i wr' => ∃ (f k : Nat) (A' : Option Addr) (c' : Nat) (acc : List Pel.Ask) (y : Beyond), l.length - k ≤ f ∧ k ≤ l.length ∧ i = .int .i64 k ∧ v = .slice A' acc.length c' ∧ acc.length ≤ 120 ∧ rdGo f (l.drop k) acc = rdGo l.length l [] ∧ wr' = ext w y ∧ Own wr' w.heap.size 27 7 A' acc.length c' (va acc)) (fun _ i _ => l.length - (intOf i).toNat)
    case atStart => obtain ⟨y, hy⟩ := ext_of (Bel.refl w); exact ⟨l.length, 0, none, 0, [], y, Nat.le_refl _, Nat.zero_le _, rfl, rfl, by simp, rfl, hy, Own.nil_ _ _ _ _⟩
    case round =>
      obtain ⟨f, k, A', c', acc, y, hf, hk, rfl, rfl, hacc, hgo, rfl, hown⟩ := hrel
      have HG := Lib.hid hgo; clear hgo
      by_cases hlt : k < l.length
      · obtain ⟨f, rfl⟩ : ∃ f', f = f' + 1 := ⟨f - 1, by omega⟩
        obtain ⟨b, o, rfl, hb⟩ := hs.at_ (by omega)
        have hcap := hs.cap
        have hc : ¬ c = k := by omega
        have hdl : (l.drop k).length = l.length - k := List.length_drop
        have hne : l.drop k ≠ [] := by intro h; rw [h] at hdl; simp at hdl; omega
        have HNE := Lib.hid hne; clear hne
        have hq := first_any (some ⟨b, o + k, none⟩) (c - k) (l.drop k)
        have hsd := sl_rest hs hk hc
        rw [hdl] at hq
        have hq := Lib.hid hq
        have HSD := Lib.hid hsd; clear hsd
        have HDL := Lib.hid hdl
        clear hdl
        have f1 : k ≤ c := by omega
        have f2 : (k : Int) ≤ (c : Int) := by omega
        cases hfo : firstOk (l.drop k)
        · have HL := Lib.hid (firstLen_no hfo)
          have HF := Lib.hid hfo
          clear hfo
          have e3 : rd l = ([], 12) := by rw [E1.out, ← HG.out, rdGo_bad HNE.out (.inl HF.out)]
          have HE := Lib.hid e3
          clear e3
          go_wp2_with (go_at_call 34; refine (hq.out _ (HSD.out.bel (by (try simp only [ext_ext]); repeat (first | exact Bel.refl _ | assumption | refine bel_and ?_ _ | refine bel_drews ?_ _ | refine Bel.ext ?_ _ | refine Bel.alloc ?_ _ | refine Bel.drewN ?_ _))) (by omega)).mono ?_; rw [HL.out]; rintro e _ ⟨rfl, x1, rfl⟩)
          go_ret2
          rw [HE.out]
          exact ⟨_, _, rfl, own_ret (by (try simp only [ext_ext]); repeat (first | exact Bel.refl _ | assumption | refine bel_and ?_ _ | refine bel_drews ?_ _ | refine Bel.ext ?_ _ | refine Bel.alloc ?_ _ | refine Bel.drewN ?_ _)) (Own.nil_ w w.heap.size _ _) (by (try simp only [ext_ext]); repeat (first | exact Bel.refl _ | assumption | refine bel_and ?_ _ | refine bel_drews ?_ _ | refine Bel.ext ?_ _ | refine Bel.alloc ?_ _ | refine Bel.drewN ?_ _)) (Nat.le_refl _)⟩
        · have HF := Lib.hid hfo
          obtain ⟨hfl, hfc⟩ := firstOk_len hfo
          have HL := Lib.hid (firstLen_yes hfo)
          have hpos := askLen_pos (plainAsk (l.drop k)).k
          have hlen : 1 ≤ firstLen (l.drop k) ∧ firstLen (l.drop k) ≤ l.length - k := by rw [HL.out]; have := HDL.out; omega
          clear hfo hfc hfl hpos HL
          generalize hn0 : firstLen (l.drop k) = n0 at *
          have HN := Lib.hid hn0; clear hn0
          have z0 : ((n0 : Int) == 0) = false := by rw [beq_eq_false_iff_ne]; omega
          by_cases h120 : acc.length = 120
          · have z1 : ((acc.length : Int) == 120) = true := by rw [beq_iff_eq]; omega
            have e3 : rd l = ([], 12) := by rw [E1.out, ← HG.out, rdGo_bad HNE.out (.inr h120)]
            have HE := Lib.hid e3
            clear e3 h120
            go_wp2_with (go_at_call 34; refine (hq.out _ (HSD.out.bel (by (try simp only [ext_ext]); repeat (first | exact Bel.refl _ | assumption | refine bel_and ?_ _ | refine bel_drews ?_ _ | refine Bel.ext ?_ _ | refine Bel.alloc ?_ _ | refine Bel.drewN ?_ _))) (by omega)).mono ?_; rintro e _ ⟨rfl, x1, rfl⟩)
            go_ret2
            rw [HE.out]
            exact ⟨_, _, rfl, own_ret (by (try simp only [ext_ext]); repeat (first | exact Bel.refl _ | assumption | refine bel_and ?_ _ | refine bel_drews ?_ _ | refine Bel.ext ?_ _ | refine Bel.alloc ?_ _ | refine Bel.drewN ?_ _)) (Own.nil_ w w.heap.size _ _) (by (try simp only [ext_ext]); repeat (first | exact Bel.refl _ | assumption | refine bel_and ?_ _ | refine bel_drews ?_ _ | refine Bel.ext ?_ _ | refine Bel.alloc ?_ _ | refine Bel.drewN ?_ _)) (Nat.le_refl _)⟩
          · have z1 : ((acc.length : Int) == 120) = false := by rw [beq_eq_false_iff_ne]; omega
            have HOK := Lib.hid (rdGo_ok (f := f) HF.out h120)
            go_wp2_with (first | (go_at_call 34; refine (hq.out _ (HSD.out.bel (by (try simp only [ext_ext]); repeat (first | exact Bel.refl _ | assumption | refine bel_and ?_ _ | refine bel_drews ?_ _ | refine Bel.ext ?_ _ | refine Bel.alloc ?_ _ | refine Bel.drewN ?_ _))) (by omega)).mono ?_; rintro e _ ⟨rfl, x1, rfl⟩) | (at_builtin; (try refine wpList_unguard rfl (by first | rfl | simp [yielded]) ?_); refine append1_ext slt_asks (by (try simp only [ext_ext]); repeat (first | exact Bel.refl _ | assumption | refine bel_and ?_ _ | refine bel_drews ?_ _ | refine Bel.ext ?_ _ | refine Bel.alloc ?_ _ | refine Bel.drewN ?_ _)) hown (by (try simp only [ext_ext]); repeat (first | exact Bel.refl _ | assumption | refine bel_and ?_ _ | refine bel_drews ?_ _ | refine Bel.ext ?_ _ | refine Bel.alloc ?_ _ | refine Bel.drewN ?_ _)) (by simp [Value.oneCell']) rfl (by omega) rfl _ _ rfl rfl rfl (by simp [go_sem]) ?_; rintro A6 c6 y6 hown6))
            go_roundw
            case rel =>
              refine ⟨f, k + n0, A6, c6, acc ++ [firstAsk (l.drop k)], y6, by omega, by omega, by go_num, by rw [List.length_append]; rfl, by rw [List.length_append]; simp; omega, ?_, rfl, ?_⟩
              · rw [← HG.out, HOK.out, HN.out, List.drop_drop]
              · rw [List.length_append, va_snoc]; exact hown6.bel (by (try simp only [ext_ext]); repeat (first | exact Bel.refl _ | assumption | refine bel_and ?_ _ | refine bel_drews ?_ _ | refine Bel.ext ?_ _ | refine Bel.alloc ?_ _ | refine Bel.drewN ?_ _))
            case measure => (first | (simp [intOf]; done) | (simp [intOf]; omega))
      · obtain rfl : k = l.length := by omega
        have e3 : rd l = (acc, 0) := by rw [E1.out, ← HG.out, List.drop_length, rdGo_nil]
        have HE := Lib.hid e3
        clear e3
        go_wp2
        go_ret2
        rw [HE.out]
        exact ⟨_, _, rfl, own_ret (by (try simp only [ext_ext]); repeat (first | exact Bel.refl _ | assumption | refine bel_and ?_ _ | refine bel_drews ?_ _ | refine Bel.ext ?_ _ | refine Bel.alloc ?_ _ | refine Bel.drewN ?_ _)) hown (by (try simp only [ext_ext]); repeat (first | exact Bel.refl _ | assumption | refine bel_and ?_ _ | refine bel_drews ?_ _ | refine Bel.ext ?_ _ | refine Bel.alloc ?_ _ | refine Bel.drewN ?_ _)) (by simp [go_sem])⟩
end Go.Proofs.Ytijinelgbiombaa
