/- Lists of asks are compared; decode.Write. -/
import Derived.Test.YtijinelgbiombaaDec10
import Derived.Test.YtijinelgbiombaaDec6
import Derived.Test.YtijinelgbiombaaSpec36b
set_option linter.unusedSimpArgs false
set_option linter.unusedVariables false
namespace Go.Proofs.Ytijinelgbiombaa
open Go.RowKit Go.Pel
set_option maxRecDepth 10000 in
set_option maxHeartbeats 2000000 in
theorem write_any (A : Option Addr) (c : Nat) (l : List Pel.Ask) (w : World) (hs : Sl w 7 A l.length c (va l)) (hin : ∀ x ∈ l, x.Fits) :
    Calls Try.prog 17 #[.slice A l.length c] w fun e w' => ∃ A' c', e = .returned (.tuple #[.slice A' (wr l).1.length c', .int .i64 (wr l).2]) ∧ ∃ x, w' = ext w x ∧ Own (ext w x) w.heap.size 5 1 A' (wr l).1.length c' (vb (wr l).1) := by
  by_cases hl : 120 < l.length
  · have E1 := Lib.hid (wr_many hl)
    go_enter Try.func17, Try.ntmps17
    go_wp2
    go_ret2
    rw [E1.out]
    exact ⟨_, _, rfl, own_ret (by (try simp only [ext_ext]); repeat (first | exact Bel.refl _ | assumption | refine bel_and ?_ _ | refine bel_drews ?_ _ | refine Bel.ext ?_ _ | refine Bel.alloc ?_ _ | refine Bel.drewN ?_ _)) (Own.nil_ w w.heap.size _ _) (by (try simp only [ext_ext]); repeat (first | exact Bel.refl _ | assumption | refine bel_and ?_ _ | refine bel_drews ?_ _ | refine Bel.ext ?_ _ | refine Bel.alloc ?_ _ | refine Bel.drewN ?_ _)) (Nat.le_refl _)⟩
  · have E1 := Lib.hid (wr_go (l := l) (by omega))
    go_enter Try.func17, Try.ntmps17
    go_wp2
    go_loopw [4, 14] (fun v i wr' => ∃ (k : Nat) (A' : Option Addr) (c' : Nat) (acc : List UInt8) (y : Beyond), k ≤ l.length ∧ i = .int .i64 k ∧ v = .slice A' acc.length c' ∧ acc.length ≤ 9 * k ∧ wrGo (l.drop k) acc = wrGo l [] ∧ wr' = ext w y ∧ Own wr' w.heap.size 5 1 A' acc.length c' (vb acc)) (fun _ i _ => l.length - (intOf i).toNat)
    case atStart => obtain ⟨y, hy⟩ := ext_of (Bel.refl w); exact ⟨0, none, 0, [], y, Nat.zero_le _, rfl, rfl, by simp, rfl, hy, Own.nil_ _ _ _ _⟩
    case round =>
      obtain ⟨k, A', c', acc, y, hk, rfl, rfl, hacc, hgo, rfl, hown⟩ := hrel
      have HG := Lib.hid hgo; clear hgo
      by_cases hlt : k < l.length
      · obtain ⟨x, hx⟩ : ∃ x, l[k]? = some x := ⟨_, List.getElem?_eq_getElem hlt⟩
        obtain ⟨b, o, rfl, hb⟩ := hs.at_ (by omega)
        obtain ⟨r0, r1, r2, r3, r4, r5, r6⟩ := ask_at hs hx
        have hf := hin x (List.mem_of_getElem? hx)
        obtain ⟨⟨u1, u2⟩, ⟨u3, u4⟩, ⟨u5, u6⟩, ⟨u7, u8⟩, ⟨u9, u10⟩, ⟨u11, u12⟩, ⟨u13, u14⟩⟩ := hf
        have hd : l.drop k = x :: l.drop (k + 1) := by rw [List.drop_eq_getElem_cons hlt]; congr 1; rw [List.getElem?_eq_getElem hlt] at hx; exact Option.some.inj hx
        have HD := Lib.hid hd
        have HX := Lib.hid hx
        have hq := Lib.hid (fun W => encode_any x.k x.i x.a x.b x.j x.n x.d W (by omega) (by omega) (by omega) (by omega) (by omega) (by omega))
        have hbl := Lib.hid (bytes_length x)
        have hlen := askLen_pos x.k
        clear hd hx hin
        rcases chk_cases x with e0 | e0
        · have e1 : encBytes x.k x.i x.a x.b x.j x.n x.d = x.bytes := encBytes_yes e0
          have e2 : askChk x.k x.i x.a x.b x.j x.n x.d = 0 := e0
          have HE := Lib.hid e0
          clear e0
          go_wp2_with (first | (go_at_call 10; refine (hq.out _).mono ?_; rw [e1, e2, hbl.out]; rintro e _ ⟨A5, c5, rfl, x5, rfl, own5⟩) | (at_builtin; (try refine wpList_unguard rfl (by first | rfl | simp [yielded]) ?_); refine append_any slt_bytes (by (try simp only [ext_ext]); repeat (first | exact Bel.refl _ | assumption | refine bel_and ?_ _ | refine bel_drews ?_ _ | refine Bel.ext ?_ _ | refine Bel.alloc ?_ _ | refine Bel.drewN ?_ _)) hown (by (try simp only [ext_ext]); repeat (first | exact Bel.refl _ | assumption | refine bel_and ?_ _ | refine bel_drews ?_ _ | refine Bel.ext ?_ _ | refine Bel.alloc ?_ _ | refine Bel.drewN ?_ _)) (own5).sl (by (try simp only [ext_ext]); repeat (first | exact Bel.refl _ | assumption | refine bel_and ?_ _ | refine bel_drews ?_ _ | refine Bel.ext ?_ _ | refine Bel.alloc ?_ _ | refine Bel.drewN ?_ _)) (vb_one _) (own5).nilc (by omega) rfl _ _ rfl rfl rfl ?_; rintro A6 c6 y6 hown6))
          go_roundw
          case rel =>
            refine ⟨k + 1, A6, c6, acc ++ x.bytes, y6, by omega, by go_num, by rw [List.length_append, hbl.out], by rw [List.length_append, hbl.out]; omega, ?_, rfl, ?_⟩
            · rw [← HG.out, HD.out, wrGo_ok HE.out]
            · rw [List.length_append, hbl.out, vb_append]; exact hown6
          case measure => (first | (simp [intOf]; done) | (simp [intOf]; omega))
        · have e1 : encBytes x.k x.i x.a x.b x.j x.n x.d = [] := encBytes_no e0
          have e2 : askChk x.k x.i x.a x.b x.j x.n x.d = 8 := e0
          have e3 : wr l = ([], 8) := by rw [E1.out, ← HG.out, HD.out, wrGo_bad e0]
          have HE := Lib.hid e3
          clear e0 e3
          go_wp2_with (first | (go_at_call 10; refine (hq.out _).mono ?_; rw [e1, e2]; rintro e _ ⟨A5, c5, rfl, x5, rfl, own5⟩))
          go_ret2
          rw [HE.out]
          exact ⟨_, _, rfl, own_ret (by (try simp only [ext_ext]); repeat (first | exact Bel.refl _ | assumption | refine bel_and ?_ _ | refine bel_drews ?_ _ | refine Bel.ext ?_ _ | refine Bel.alloc ?_ _ | refine Bel.drewN ?_ _)) (Own.nil_ w w.heap.size _ _) (by (try simp only [ext_ext]); repeat (first | exact Bel.refl _ | assumption | refine bel_and ?_ _ | refine bel_drews ?_ _ | refine Bel.ext ?_ _ | refine Bel.alloc ?_ _ | refine Bel.drewN ?_ _)) (Nat.le_refl _)⟩
      · obtain rfl : k = l.length := by omega
        go_wp2
        go_ret2
        have e3 : wr l = (acc, 0) := by rw [E1.out, ← HG.out, List.drop_length]; rfl
        rw [e3]
        exact ⟨_, _, rfl, own_ret (by (try simp only [ext_ext]); repeat (first | exact Bel.refl _ | assumption | refine bel_and ?_ _ | refine bel_drews ?_ _ | refine Bel.ext ?_ _ | refine Bel.alloc ?_ _ | refine Bel.drewN ?_ _)) hown (by (try simp only [ext_ext]); repeat (first | exact Bel.refl _ | assumption | refine bel_and ?_ _ | refine bel_drews ?_ _ | refine Bel.ext ?_ _ | refine Bel.alloc ?_ _ | refine Bel.drewN ?_ _)) (by simp [go_sem])⟩
end Go.Proofs.Ytijinelgbiombaa
