/- ref03.Rank. -/
import Derived.Test.YtkcpnclgcmnlcaaRef7
set_option linter.unusedSimpArgs false
set_option linter.unusedVariables false
namespace Go.Pel
open Go Go.RowKit
theorem ix_rank {l : List Pt} {n d : Int} (h : incB l = true) {p : Pt} (hp : p ∈ l) : ixI ((sortP n d l).map Pt.id) p.id = rankR l p n d := by
  obtain ⟨i, hi⟩ := List.mem_iff_getElem?.1 ((sortP_perm n d l).mem_iff.2 hp)
  rw [rank_sorted h hi]
  refine ixI_hit (by simp [hi]) ?_
  intro j y hj hy he
  rw [List.getElem?_map] at hy
  obtain ⟨q, hq, rfl⟩ := Option.map_eq_some_iff.1 hy
  have hql := (sortP_perm n d l).mem_iff.1 (List.mem_of_getElem? hq)
  have e1 := idsApart_inc h q hql p hp he
  subst e1
  have := rank_sorted h hi
  rw [rank_sorted h hq] at this
  omega
theorem ix_none {l : List Pt} {n d id : Int} (h : hasB l id = false) : ixI ((sortP n d l).map Pt.id) id = -1 := by
  refine ixI_miss ?_
  intro j y hy he
  rw [List.getElem?_map] at hy
  obtain ⟨q, hq, rfl⟩ := Option.map_eq_some_iff.1 hy
  have hql := (sortP_perm n d l).mem_iff.1 (List.mem_of_getElem? hq)
  unfold hasB at h
  rw [List.any_eq_false] at h
  exact h q hql (by simpa using he)
end Go.Pel
namespace Go.Proofs.Ytkcpnclgcmnlcaa
open Go.RowKit Go.Pel
theorem at03_lit (A : Option Addr) (c : Nat) (l : List Pt) (id v : Int) (hv : atI l id = v) (w : World) (hs : Sl w 3 A l.length c (vp l)) (hl : l.length ≤ 1000000) :
    Calls Try.prog 66 #[.agg #[.slice A l.length c], .int .i64 id] w fun e w' => e = .returned (.int .i64 v) ∧ ∃ x, w' = ext w x := hv ▸ at03_any A c l id w hs hl
set_option maxRecDepth 10000 in
set_option maxHeartbeats 2000000 in
theorem refRank_any (A : Option Addr) (c : Nat) (l : List Pt) (id n d : Int) (w : World) (hn : -9223372036854775808 ≤ n ∧ n ≤ 9223372036854775807) (hd : -9223372036854775808 ≤ d ∧ d ≤ 9223372036854775807) (hs : Sl w 3 A l.length c (vp l)) (hl : l.length ≤ 1000000) :
    Calls Try.prog 55 #[.agg #[.slice A l.length c], .int .i64 id, .agg #[.int .i64 n, .int .i64 d]] w fun e w' => e = .returned (.tuple #[.int .i64 (fieldRank l id n d).1, .int .i64 (fieldRank l id n d).2]) ∧ ∃ x, w' = ext w x := by
  have q := Lib.hid (fun W hb => timed_any A c l n d W hn hd (hs.bel (w' := W) hb) hl)
  unfold fieldRank
  by_cases h : timed l n d = 0
  · obtain ⟨h1, h2, h3⟩ := timed_zero h
    have hinc := (fieldChk_zero h1).2.2
    have hci := cmpIn_all h1 h2 hn hd
    have hFO : fieldOrder l n d = ((sortP n d l).map Pt.id, 0) := by unfold fieldOrder; rw [h3]; exact if_neg (fun h => h rfl)
    rw [hFO]
    rw [h] at q
    simp only
    rw [if_neg (fun h => h rfl)]
    cases hb : hasB l id with
    | false =>
      rw [ix_none hb, if_pos (by decide)]
      have q2 := Lib.hid (fun W hb' => at03_lit A c l id (-1) (atI_no hb) W (hs.bel (w' := W) hb') hl)
      clear h h1 h2 h3 hn hd hb hinc hci
      go_enter Try.func55, Try.ntmps55
      go_wp2_with (first | (go_at_call 45; refine (q.out _ (by (try simp only [ext_ext]); repeat (first | exact Bel.refl _ | assumption | refine bel_and ?_ _ | refine bel_drews ?_ _ | refine Bel.ext ?_ _ | refine Bel.alloc ?_ _ | refine Bel.drewN ?_ _))).mono ?_; rintro e _ ⟨rfl, nx, rfl⟩) | (go_at_call 66; refine (q2.out _ (by (try simp only [ext_ext]); repeat (first | exact Bel.refl _ | assumption | refine bel_and ?_ _ | refine bel_drews ?_ _ | refine Bel.ext ?_ _ | refine Bel.alloc ?_ _ | refine Bel.drewN ?_ _))).mono ?_; rintro e _ ⟨rfl, nx, rfl⟩))
      go_ret2
      exact ⟨rfl, ext_of (by (try simp only [ext_ext]); repeat (first | exact Bel.refl _ | assumption | refine bel_and ?_ _ | refine bel_drews ?_ _ | refine Bel.ext ?_ _ | refine Bel.alloc ?_ _ | refine Bel.drewN ?_ _))⟩
    | true =>
      obtain ⟨h4, p, hp, h5⟩ := atI_low hinc hb
      have hpl := List.mem_of_getElem? hp
      rw [← h5, ix_rank hinc hpl, h5, if_neg (by omega)]
      have q2 := Lib.hid (fun W hb' => at03_lit A c l id (lowB l id) h4 W (hs.bel (w' := W) hb') hl)
      have hlt := (List.getElem?_eq_some_iff.1 hp).1
      obtain ⟨k, hk⟩ : ∃ k, lowB l id = k := ⟨_, rfl⟩
      rw [hk] at q2 hp hlt
      obtain ⟨R, hR⟩ : ∃ R, rankR l p n d = R := ⟨_, rfl⟩
      have q3 := Lib.hid (fun W hb' => ranked_lit A c l p n d R hR W (hs.bel (w' := W) hb') hl (hci p hpl))
      rw [hR]
      obtain ⟨b, o, rfl, hb2⟩ := hs.at_ (by omega)
      obtain ⟨r0, r1, r2⟩ := pt_at hs hp
      have hlt' : (k : Int) < (l.length : Int) := by omega
      clear h h1 h2 h3 hn hd hb hinc hci h4 h5 hpl hp hk hR
      go_enter Try.func55, Try.ntmps55
      go_wp2_with (first | (go_at_call 45; refine (q.out _ (by (try simp only [ext_ext]); repeat (first | exact Bel.refl _ | assumption | refine bel_and ?_ _ | refine bel_drews ?_ _ | refine Bel.ext ?_ _ | refine Bel.alloc ?_ _ | refine Bel.drewN ?_ _))).mono ?_; rintro e _ ⟨rfl, nx, rfl⟩) | (go_at_call 66; refine (q2.out _ (by (try simp only [ext_ext]); repeat (first | exact Bel.refl _ | assumption | refine bel_and ?_ _ | refine bel_drews ?_ _ | refine Bel.ext ?_ _ | refine Bel.alloc ?_ _ | refine Bel.drewN ?_ _))).mono ?_; rintro e _ ⟨rfl, nx, rfl⟩))
      ((first | refine RegC.wp_region_ext1 (by kernel_rfl) (by kernel_rfl) ?_ | refine RegC.wp_region_ext0 (by kernel_rfl) (by kernel_rfl) ?_); (repeat (any_goals (first | go_big_quiet_step ((go_at_call 93; with_reducible first | exact Calls.ext_of1 (q3.out _ (by (try simp only [ext_ext]); repeat (first | exact Bel.refl _ | assumption | refine bel_and ?_ _ | refine bel_drews ?_ _ | refine Bel.ext ?_ _ | refine Bel.alloc ?_ _ | refine Bel.drewN ?_ _))) | exact Calls.ext_of (q3.out _ (by (try simp only [ext_ext]); repeat (first | exact Bel.refl _ | assumption | refine bel_and ?_ _ | refine bel_drews ?_ _ | refine Bel.ext ?_ _ | refine Bel.alloc ?_ _ | refine Bel.drewN ?_ _))))) | (refine RegC.wpQuiet_split rfl rfl (fun hb => ?_) (fun hb => ?_) <;> simp only [hb])))); all_goals (refine wpQuiet_nil ?_; rintro _ ⟨nq, rfl⟩))
      go_wp2
      go_ret2
      exact ⟨rfl, ext_of (by (try simp only [ext_ext]); repeat (first | exact Bel.refl _ | assumption | refine bel_and ?_ _ | refine bel_drews ?_ _ | refine Bel.ext ?_ _ | refine Bel.alloc ?_ _ | refine Bel.drewN ?_ _))⟩
  · have hFO : fieldOrder l n d = ([], timed l n d) := by unfold fieldOrder; rw [timed_sorted, if_pos h]
    rw [hFO]
    obtain ⟨v, hv⟩ : ∃ v, timed l n d = v := ⟨_, rfl⟩
    rw [hv] at q h ⊢
    simp only
    rw [if_pos h]
    have h' : (v != 0) = true := by simpa using h
    clear h hn hd hv
    go_enter Try.func55, Try.ntmps55
    go_wp2_with ((go_at_call 45; refine (q.out _ (by (try simp only [ext_ext]); repeat (first | exact Bel.refl _ | assumption | refine bel_and ?_ _ | refine bel_drews ?_ _ | refine Bel.ext ?_ _ | refine Bel.alloc ?_ _ | refine Bel.drewN ?_ _))).mono ?_; rintro e _ ⟨rfl, nx, rfl⟩))
    go_ret2
    exact ⟨rfl, ext_of (by (try simp only [ext_ext]); repeat (first | exact Bel.refl _ | assumption | refine bel_and ?_ _ | refine bel_drews ?_ _ | refine Bel.ext ?_ _ | refine Bel.alloc ?_ _ | refine Bel.drewN ?_ _))⟩
end Go.Proofs.Ytkcpnclgcmnlcaa
