/- ref03.Ordered. -/
import Derived.Test.YtkcpnclgcmnlcaaRef5
set_option linter.unusedSimpArgs false
set_option linter.unusedVariables false
namespace Go.Pel
open Go Go.RowKit
def ordK (l : List Pt) (n d : Int) (k : Nat) : List Int := (l.take k).foldl (fun acc p => acc.set (rankR l p n d) p.id) (List.replicate l.length 0)
theorem ordK_len (l : List Pt) (n d : Int) (k : Nat) : (ordK l n d k).length = l.length := by
  unfold ordK
  have : ∀ (m : List Pt) (acc : List Int), (m.foldl (fun acc p => acc.set (rankR l p n d) p.id) acc).length = acc.length := by
    intro m; induction m with
    | nil => intro acc; rfl
    | cons a r ih => intro acc; rw [List.foldl_cons, ih, List.length_set]
  rw [this, List.length_replicate]
theorem ordK_step {l : List Pt} {n d : Int} {k : Nat} {p : Pt} (h : l[k]? = some p) : ordK l n d (k + 1) = (ordK l n d k).set (rankR l p n d) p.id := by
  unfold ordK
  rw [List.take_add_one, h, List.foldl_append]; rfl
theorem rankR_lt {l : List Pt} {p : Pt} (h : p ∈ l) (n d : Int) : rankR l p n d < l.length := by
  unfold rankR
  rw [List.length_filter_lt_length_iff_exists]
  exact ⟨p, h, by simp⟩
theorem vi_set (l : List Int) (k : Nat) (x : Int) : vi (l.set k x) = (vi l).set k (.int .i64 x) := by simp [vi, List.map_set]
theorem vi_get {l : List Int} {k : Nat} (h : k < l.length) : ∃ x, (vi l)[k]? = some (.int .i64 x) := ⟨l[k], by simp [vi, h]⟩
end Go.Pel
namespace Go.Proofs.Ytkcpnclgcmnlcaa
open Go.RowKit Go.Pel
theorem ranked_lit (A : Option Addr) (c : Nat) (l : List Pt) (p : Pt) (n d : Int) (R : Nat) (hR : rankR l p n d = R) (w : World) (hs : Sl w 3 A l.length c (vp l)) (hl : l.length ≤ 1000000) (hin : ∀ q ∈ l, CmpIn q p n d) :
    Calls Try.prog 93 #[.agg #[.slice A l.length c], .agg #[.int .i64 p.id, .int .i64 p.a, .int .i64 p.b], .agg #[.int .i64 n, .int .i64 d]] w fun e w' => e = .returned (.int .i64 (R : Int)) ∧ ∃ x, w' = ext w x := hR ▸ ranked_any A c l p n d w hs hl hin
set_option maxRecDepth 10000 in
set_option maxHeartbeats 2000000 in
theorem ordered_any (A : Option Addr) (c : Nat) (l : List Pt) (n d : Int) (w : World) (hs : Sl w 3 A l.length c (vp l)) (hl : l.length ≤ 1000000) (hin : ∀ p ∈ l, ∀ q ∈ l, CmpIn q p n d) :
    Calls Try.prog 91 #[.agg #[.slice A l.length c], .agg #[.int .i64 n, .int .i64 d]] w fun e w' => ∃ A' c', e = .returned (.slice A' l.length c') ∧ ∃ x, w' = ext w x ∧ Own (ext w x) w.heap.size 3 1 A' l.length c' (vi (ordK l n d l.length)) := by
  have HIN := Lib.hid hin; clear hin
  go_enter Try.func91, Try.ntmps91
  go_wp2_with (refine make_ext slt_ints (Bel.refl _) (n := l.length) (by omega) rfl _ _ rfl rfl rfl ?_; rintro g y hg hown; rw [made_ints] at hown)
  go_loopw [6] (fun i wr => ∃ (k : Nat) (y : Beyond), k ≤ l.length ∧ i = .int .i64 k ∧ wr = ext ((w.alloc (.cells #[.slice A l.length c] 24)).alloc (.cells #[.int .i64 n, .int .i64 d] 49)) y ∧ Own (ext ((w.alloc (.cells #[.slice A l.length c] 24)).alloc (.cells #[.int .i64 n, .int .i64 d] 49)) y) (w.heap.size + 2) 3 1 (some ⟨g, 0, none⟩) l.length l.length (vi (ordK l n d k))) (fun i _ => l.length - (intOf i).toNat)
  case atStart => exact ⟨0, y, Nat.zero_le _, rfl, rfl, by simpa [ordK, vi, go_sem] using hown⟩
  case round =>
    obtain ⟨k, y3, hk, rfl, rfl, own3⟩ := hrel
    have hg2 := own3.ats
    clear hown
    by_cases hlt : k < l.length
    · obtain ⟨p, hp⟩ : ∃ p, l[k]? = some p := ⟨_, List.getElem?_eq_getElem hlt⟩
      have HS := Lib.hid (ordK_step (n := n) (d := d) hp)
      have hpm := List.mem_of_getElem? hp
      have hR := rankR_lt hpm n d
      obtain ⟨R, hR'⟩ : ∃ R, rankR l p n d = R := ⟨_, rfl⟩
      have q1 := Lib.hid (fun W hb => ranked_lit A c l p n d R hR' W (hs.bel (w' := W) hb) hl (HIN.out p hpm))
      rw [hR'] at HS hR
      obtain ⟨u, hu⟩ := vi_get (l := ordK l n d k) (k := R) (by rw [ordK_len]; exact hR)
      have b0 := own_cell own3 hu
      have z0 := own_frozen own3 R
      obtain ⟨b, o, rfl, hb2⟩ := hs.at_ (by omega)
      obtain ⟨r0, r1, r2⟩ := pt_at hs hp
      have hlt' : (k : Int) < (l.length : Int) := by omega
      have hRl : (R : Int) < (l.length : Int) := by omega
      have hgs := hg2.2
      simp [go_sem] at hgs
      clear hp hR' hu hg2 hpm hR
      go_wp2
      ((first | refine RegC.wp_region_tail1 16 (by kernel_rfl) (by kernel_rfl) ?_ | refine RegC.wp_region_tail0 16 (by kernel_rfl) (by kernel_rfl) ?_); simp only [List.take_succ_cons, List.take_zero, List.drop_succ_cons, List.drop_zero]; (repeat (any_goals (first | go_big_quiet_step ((go_at_call 93; with_reducible first | exact Calls.ext_of1 (q1.out _ (by (try simp only [ext_ext]); repeat (first | exact Bel.refl _ | assumption | refine bel_and ?_ _ | refine bel_drews ?_ _ | refine Bel.ext ?_ _ | refine Bel.alloc ?_ _ | refine Bel.drewN ?_ _))) | exact Calls.ext_of (q1.out _ (by (try simp only [ext_ext]); repeat (first | exact Bel.refl _ | assumption | refine bel_and ?_ _ | refine bel_drews ?_ _ | refine Bel.ext ?_ _ | refine Bel.alloc ?_ _ | refine Bel.drewN ?_ _))))) | (refine RegC.wpQuiet_split rfl rfl (fun hb => ?_) (fun hb => ?_) <;> simp only [hb])))); all_goals (refine wpQuiet_nil ?_; rintro _ ⟨nq, rfl⟩))
      go_wp2
      go_roundw
      case rel =>
        obtain ⟨y5, hy5, own5⟩ := own_exists ((bel_ext _ (y3.and nq)).setCell (p := ⟨g, R, none⟩) hg (.int .i64 p.id)) (World.ownsRow.stored (own3.bel (bel_and (Bel.refl _) nq)) R (.int .i64 p.id)).1 (Bel.refl _)
        rw [← vi_set, ← HS.out] at own5
        exact ⟨k + 1, y5, by omega, by go_num, hy5, own5⟩
      case measure => (first | (simp [intOf]; done) | (simp [intOf]; omega))
    · obtain rfl : k = l.length := by omega
      go_wp2
      refine bodyPost_ret (v := .slice (some ⟨g, 0, none⟩) l.length l.length) (by simp [results, Try.results91, go_sem]) rfl ?_
      exact ⟨_, _, rfl, own_exists (by (try simp only [ext_ext]); repeat (first | exact Bel.refl _ | assumption | refine bel_and ?_ _ | refine bel_drews ?_ _ | refine Bel.ext ?_ _ | refine Bel.alloc ?_ _ | refine Bel.drewN ?_ _)) (own3.base_le (by omega)) (Bel.refl _)⟩
end Go.Proofs.Ytkcpnclgcmnlcaa
