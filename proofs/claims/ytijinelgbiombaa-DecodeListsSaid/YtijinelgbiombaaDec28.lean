/- The reference's Wild. -/
import Derived.Test.YtijinelgbiombaaDec27
set_option linter.unusedSimpArgs false
set_option linter.unusedVariables false
namespace Go.Proofs.Ytijinelgbiombaa
open Go.RowKit Go.Pel
set_option maxRecDepth 10000 in
set_option maxHeartbeats 4000000 in
theorem refWild_any (A : Option Addr) (c : Nat) (l : List UInt8) (w : World) (hs : Sl w 1 A l.length c (vb l)) (hl : l.length ≤ 1000000) :
    Calls Try.prog 22 #[.slice A l.length c] w fun e w' => ∃ A' c', e = .returned (.tuple #[.slice A' (wl l).1.length c', .int .i64 (wl l).2]) ∧ ∃ x, w' = ext w x ∧ Own (ext w x) w.heap.size 27 7 A' (wl l).1.length c' (va (wl l).1) := by
  by_cases hm : 1100 < l.length
  · have E1 := Lib.hid (wl_many hm)
    go_enter Try.func22, Try.ntmps22
    go_wp2
    go_ret2
    rw [E1.out]
    exact ⟨_, _, rfl, own_ret (by (try simp only [ext_ext]); repeat (first | exact Bel.refl _ | refine bel_and ?_ _ | refine bel_drews ?_ _ | refine Bel.ext ?_ _ | refine Bel.alloc ?_ _ | refine Bel.drewN ?_ _)) (Own.nil_ w w.heap.size _ _) (by (try simp only [ext_ext]); repeat (first | exact Bel.refl _ | refine bel_and ?_ _ | refine bel_drews ?_ _ | refine Bel.ext ?_ _ | refine Bel.alloc ?_ _ | refine Bel.drewN ?_ _)) (Nat.le_refl _)⟩
  · have E1 := Lib.hid (wl_go (l := l) (by omega))
    go_enter Try.func22, Try.ntmps22
    go_wp2
    go_loopw [4, 5] (fun v i wr' => ∃ (f k : Nat) (A' : Option Addr) (c' : Nat) (acc : List Pel.Ask) (y : Beyond), l.length - k ≤ f ∧ k ≤ l.length + 8 ∧ i = .int .i64 k ∧ v = .slice A' acc.length c' ∧ acc.length ≤ 120 ∧ wlGo f (l.drop k) acc = wlGo l.length l [] ∧ wr' = ext w y ∧ Own wr' w.heap.size 27 7 A' acc.length c' (va acc)) (fun _ i _ => l.length - (intOf i).toNat)
    case atStart => obtain ⟨y, hy⟩ := ext_of (Bel.refl w); exact ⟨l.length, 0, none, 0, [], y, Nat.le_refl _, Nat.zero_le _, rfl, rfl, by simp, rfl, hy, Own.nil_ _ _ _ _⟩
    case round =>
      obtain ⟨f, k, A', c', acc, y, hf, hk, rfl, rfl, hacc, hgo, rfl, hown⟩ := hrel
      have HG := Lib.hid hgo; clear hgo
      by_cases hlt : k < l.length
      · by_cases h120 : acc.length < 120
        · obtain ⟨f, rfl⟩ : ∃ f', f = f' + 1 := ⟨f - 1, by omega⟩
          obtain ⟨b, o, rfl, hb⟩ := hs.at_ (by omega)
          have hcap := hs.cap
          have hc : ¬ c = k := by omega
          have hdl : (l.drop k).length = l.length - k := List.length_drop
          have hne : l.drop k ≠ [] := by intro h; rw [h] at hdl; simp at hdl; omega
          have HOK := Lib.hid (wlGo_step (f := f) hne h120)
          clear hne
          have hq := refwild_any (some ⟨b, o + k, none⟩) (c - k) (l.drop k)
          have hsd := sl_rest hs (Nat.le_of_lt hlt) hc
          rw [hdl] at hq
          have hq := Lib.hid hq
          have HSD := Lib.hid hsd; clear hsd hdl
          have f1 : k ≤ c := by omega
          have f2 : (k : Int) ≤ (c : Int) := by omega
          have f3 : k ≤ l.length := by omega
          have hlen : 1 ≤ wildLen (l.drop k) ∧ wildLen (l.drop k) ≤ 9 := askLen_pos _
          generalize hn0 : wildLen (l.drop k) = n0 at *
          have HN := Lib.hid hn0; clear hn0
          go_wp2_with (first | (go_at_call 41; refine (hq.out _ (HSD.out.bel (by (try simp only [ext_ext]); repeat (first | exact Bel.refl _ | refine bel_and ?_ _ | refine bel_drews ?_ _ | refine Bel.ext ?_ _ | refine Bel.alloc ?_ _ | refine Bel.drewN ?_ _))) (by omega) (by omega)).mono ?_; rintro e _ ⟨rfl, x1, rfl⟩) | (at_builtin; (try refine wpList_unguard rfl (by first | rfl | simp [yielded]) ?_); refine append1_ext slt_asks (by (try simp only [ext_ext]); repeat (first | exact Bel.refl _ | refine bel_and ?_ _ | refine bel_drews ?_ _ | refine Bel.ext ?_ _ | refine Bel.alloc ?_ _ | refine Bel.drewN ?_ _)) hown (by (try simp only [ext_ext]); repeat (first | exact Bel.refl _ | refine bel_and ?_ _ | refine bel_drews ?_ _ | refine Bel.ext ?_ _ | refine Bel.alloc ?_ _ | refine Bel.drewN ?_ _)) (by simp [Value.oneCell']) rfl (by omega) rfl _ _ rfl rfl rfl (by simp [go_sem]) ?_; rintro A6 c6 y6 hown6))
          go_roundw
          case rel =>
            refine ⟨f, k + n0, A6, c6, acc ++ [wildAsk (l.drop k)], y6, by omega, by omega, by go_num, by rw [List.length_append]; rfl, by rw [List.length_append]; simp; omega, ?_, rfl, ?_⟩
            · rw [← HG.out, HOK.out, List.drop_drop]
            · rw [List.length_append, va_snoc]; exact hown6.bel (by (try simp only [ext_ext]); repeat (first | exact Bel.refl _ | refine bel_and ?_ _ | refine bel_drews ?_ _ | refine Bel.ext ?_ _ | refine Bel.alloc ?_ _ | refine Bel.drewN ?_ _))
          case measure => (first | (simp [intOf]; done) | (simp [intOf]; omega))
        · have e3 : wl l = (acc, 0) := by rw [E1.out, ← HG.out, wlGo_end (.inr h120)]
          have HE := Lib.hid e3
          clear e3
          go_wp2
          go_ret2
          rw [HE.out]
          exact ⟨_, _, rfl, own_ret (by (try simp only [ext_ext]); repeat (first | exact Bel.refl _ | refine bel_and ?_ _ | refine bel_drews ?_ _ | refine Bel.ext ?_ _ | refine Bel.alloc ?_ _ | refine Bel.drewN ?_ _)) hown (by (try simp only [ext_ext]); repeat (first | exact Bel.refl _ | refine bel_and ?_ _ | refine bel_drews ?_ _ | refine Bel.ext ?_ _ | refine Bel.alloc ?_ _ | refine Bel.drewN ?_ _)) (by simp [go_sem])⟩
      · have e3 : wl l = (acc, 0) := by rw [E1.out, ← HG.out, wlGo_end (.inl (List.drop_eq_nil_of_le (by omega)))]
        have HE := Lib.hid e3
        clear e3
        go_wp2
        go_ret2
        rw [HE.out]
        exact ⟨_, _, rfl, own_ret (by (try simp only [ext_ext]); repeat (first | exact Bel.refl _ | refine bel_and ?_ _ | refine bel_drews ?_ _ | refine Bel.ext ?_ _ | refine Bel.alloc ?_ _ | refine Bel.drewN ?_ _)) hown (by (try simp only [ext_ext]); repeat (first | exact Bel.refl _ | refine bel_and ?_ _ | refine bel_drews ?_ _ | refine Bel.ext ?_ _ | refine Bel.alloc ?_ _ | refine Bel.drewN ?_ _)) (by simp [go_sem])⟩
end Go.Proofs.Ytijinelgbiombaa
