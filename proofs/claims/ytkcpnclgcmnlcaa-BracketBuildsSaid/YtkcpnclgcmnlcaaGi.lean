/- Walks of the references; the orders agree; examples. -/
import Derived.Test.YtkcpnclgcmnlcaaProg
import Derived.Test.YtkcpnclgcmnlcaaGh
set_option linter.unusedSimpArgs false
set_option linter.unusedVariables false
namespace Go.Proofs.Ytkcpnclgcmnlcaa
open Go.RowKit Go.Pel



end Go.Proofs.Ytkcpnclgcmnlcaa

namespace Go.Proofs.Ytkcpnclgcmnlcaa
open Go.RowKit Go.Pel
theorem wrap_div {a g : Nat} (h : a < 18446744073709551616) : IntKind.u64.wrap ((a : Int) / (g : Int)) = ((a / g : Nat) : Int) := by
  have := div_bound (g := g) h
  rw [← Int.natCast_ediv]; generalize a / g = q at *; rw [IntKind.wrap_u64]; omega


end Go.Proofs.Ytkcpnclgcmnlcaa


namespace Go.Proofs.Ytkcpnclgcmnlcaa
open Go.RowKit Go.Pel
def woB (l : List Pt) (id : Int) : List Pt := l.filter fun p => decide (p.id ≠ id)
theorem woB_snoc_yes {l : List Pt} {id : Int} {k : Nat} {p : Pt} (hp : l[k]? = some p) (h : p.id ≠ id) : woB (l.take (k + 1)) id = woB (l.take k) id ++ [p] := by
  unfold woB; rw [List.take_add_one, hp, List.filter_append]; simp [h]
theorem woB_snoc_no {l : List Pt} {id : Int} {k : Nat} {p : Pt} (hp : l[k]? = some p) (h : p.id = id) : woB (l.take (k + 1)) id = woB (l.take k) id := by
  unfold woB; rw [List.take_add_one, hp, List.filter_append]; simp [h]
theorem woB_len (l : List Pt) (id : Int) (k : Nat) : (woB (l.take k) id).length ≤ k := by
  unfold woB; exact Nat.le_trans (List.length_filter_le _ _) (List.length_take_le _ _)
set_option maxRecDepth 10000 in
set_option maxHeartbeats 2000000 in
theorem without_any (A : Option Addr) (c : Nat) (l : List Pt) (id : Int) (w : World) (hs : Sl w 3 A l.length c (vp l)) (hl : l.length ≤ 1000000) :
    Calls Try.prog 72 #[.agg #[.slice A l.length c], .int .i64 id] w fun e w' => ∃ A' c', e = .returned (.agg #[.slice A' (woB l id).length c']) ∧ ∃ x, w' = ext w x ∧ Own (ext w x) w.heap.size 26 3 A' (woB l id).length c' (vp (woB l id)) := by
  go_enter Try.func72, Try.ntmps72
  go_wp2
  go_loopw [6] (fun i wr => ∃ (k : Nat) (A' : Option Addr) (c' : Nat), k ≤ l.length ∧ i = .int .i64 k ∧ ∃ y, wr = ext (((w.alloc (.cells #[.slice A l.length c] 24)).alloc (.cells #[.slice none 0 0] 24)).alloc (.cells #[.slice A' (woB (l.take k) id).length c'] 24)) y ∧ Own (ext (((w.alloc (.cells #[.slice A l.length c] 24)).alloc (.cells #[.slice none 0 0] 24)).alloc (.cells #[.slice A' (woB (l.take k) id).length c'] 24)) y) (w.heap.size + 3) 26 3 A' (woB (l.take k) id).length c' (vp (woB (l.take k) id))) (fun i _ => l.length - (intOf i).toNat)
  case atStart => exact ⟨0, none, 0, Nat.zero_le _, rfl, nil_ret (Bel.refl _)⟩
  case round =>
    obtain ⟨k, A', c', hk, rfl, y, rfl, hown⟩ := hrel
    have hlen := woB_len l id k
    by_cases hlt : k < l.length
    · obtain ⟨p, hp⟩ : ∃ p, l[k]? = some p := ⟨_, List.getElem?_eq_getElem hlt⟩
      obtain ⟨b, o, rfl, hb⟩ := hs.at_ (by omega)
      obtain ⟨r0, r1, r2⟩ := pt_at hs hp
      have HP := Lib.hid hp; clear hp
      have hi0 : (0 : Int) ≤ (k : Int) := by omega
      have hi1 : (k : Int) < (l.length : Int) := by omega
      by_cases hid : p.id = id
      · have hd : (p.id == id) = true := by simpa using hid
        have hd' : (p.id != id) = false := by simpa using hid
        have HE := Lib.hid (woB_snoc_no HP.out hid)
        clear hid
        go_wp2
        go_roundw
        case rel => exact ⟨k + 1, A', c', by omega, by go_num, by rw [HE.out]; exact ⟨y, rfl, hown⟩⟩
        case measure => (first | (simp [intOf]; done) | (simp [intOf]; omega))
      · have hd : (p.id == id) = false := by simpa using hid
        have hd' : (p.id != id) = true := by simpa using hid
        have HE := Lib.hid (woB_snoc_yes HP.out hid)
        clear hid
        obtain ⟨n, hn⟩ : ∃ n, (woB (l.take k) id).length = n := ⟨_, rfl⟩
        rw [hn] at hown hlen ⊢
        have HN := Lib.hid hn; clear hn
        obtain ⟨xs, hxs⟩ : ∃ xs, vp (woB (l.take k) id) = xs := ⟨_, rfl⟩
        rw [hxs] at hown
        have HX := Lib.hid hxs; clear hxs
        go_wp2
        go_region_law ((refine step_append1 slt_pts (wB := ((w.alloc (.cells #[.slice (some ⟨b, o, none⟩) l.length c] 24)).alloc (.cells #[.slice none 0 0] 24)).alloc (.cells #[.slice A' n c'] 24)) (by (try simp only [ext_ext]); repeat (first | exact Bel.refl _ | assumption | refine bel_and ?_ _ | refine bel_drews ?_ _ | refine Bel.ext ?_ _ | refine Bel.alloc ?_ _ | refine Bel.drewN ?_ _)) (hown.base_le (by simp)) (by (try simp only [ext_ext]); repeat (first | exact Bel.refl _ | assumption | refine bel_and ?_ _ | refine bel_drews ?_ _ | refine Bel.ext ?_ _ | refine Bel.alloc ?_ _ | refine Bel.drewN ?_ _)) (by simp [Value.oneCell']) rfl (by omega) rfl _ _ rfl rfl rfl (by simp [go_sem]) ?_; rintro A2 c2 y2 own2))
        all_goals
          go_wp2
          go_roundw
          case rel =>
            have hz : (woB (l.take (k + 1)) id).length = n + 1 := by rw [HE.out, List.length_append, HN.out]; rfl
            have hx : vp (woB (l.take (k + 1)) id) = xs ++ p.cells := by rw [HE.out, vp_snoc, HX.out]
            refine ⟨k + 1, A2, c2, by omega, by go_num, ?_⟩
            rw [hz, hx]
            exact ⟨y2, rfl, (own_swap (by simp) own2 (by simp)).base_le (by simp)⟩
          case measure => (first | (simp [intOf]; done) | (simp [intOf]; omega))
    · obtain rfl : k = l.length := by omega
      rw [List.take_length] at hown hlen ⊢
      go_wp2
      refine bodyPost_ret (v := .agg #[.slice A' (woB l id).length c']) (by simp [results, Try.results72, go_sem]) rfl ?_
      exact ⟨_, _, rfl, own_ret (by (try simp only [ext_ext]); repeat (first | exact Bel.refl _ | assumption | refine bel_and ?_ _ | refine bel_drews ?_ _ | refine Bel.ext ?_ _ | refine Bel.alloc ?_ _ | refine Bel.drewN ?_ _)) (own_swap (by simp [go_sem]) hown (by simp [go_sem])) (Bel.refl _) (by simp [go_sem])⟩
/-- the reference's Put before its loop's round k: not yet in, or in -/
def puA (l : List Pt) (p : Pt) (k : Nat) : List Pt := if k ≤ lowB l p.id then l.take k else l.take (lowB l p.id) ++ p :: (l.drop (lowB l p.id)).take (k - lowB l p.id)
theorem puA_0 (l : List Pt) (p : Pt) : puA l p 0 = [] := by unfold puA; rw [if_pos (Nat.zero_le _)]; rfl
theorem puA_lt {l : List Pt} {p x : Pt} {k : Nat} (h : k < lowB l p.id) (hx : l[k]? = some x) : puA l p (k + 1) = puA l p k ++ [x] := by
  unfold puA; rw [if_pos (by omega), if_pos (by omega), List.take_add_one, hx]; rfl
theorem puA_eq {l : List Pt} {p x : Pt} {k : Nat} (h : k = lowB l p.id) (hx : l[k]? = some x) : puA l p (k + 1) = puA l p k ++ [p] ++ [x] := by
  unfold puA
  rw [if_neg (by omega), if_pos (by omega), h, show lowB l p.id + 1 - lowB l p.id = 1 by omega, List.take_one]
  rw [List.head?_drop, ← h, hx]; simp
theorem puA_gt {l : List Pt} {p x : Pt} {k : Nat} (h : lowB l p.id < k) (hx : l[k]? = some x) : puA l p (k + 1) = puA l p k ++ [x] := by
  unfold puA
  rw [if_neg (by omega), if_neg (by omega), show k + 1 - lowB l p.id = (k - lowB l p.id) + 1 by omega, List.take_add_one, List.getElem?_drop, show lowB l p.id + (k - lowB l p.id) = k by omega, hx]
  simp
theorem puA_len {l : List Pt} {p : Pt} {k : Nat} (hk : k ≤ l.length) : (puA l p k).length ≤ k + 1 := by
  unfold puA; split
  · have := List.length_take_le k l; omega
  · rename_i h
    have := lowB_le l p.id
    simp only [List.length_append, List.length_take, List.length_cons, List.length_drop]; omega
theorem puA_end_in {l : List Pt} {p : Pt} (h : lowB l p.id < l.length) : puA l p l.length = l.take (lowB l p.id) ++ p :: l.drop (lowB l p.id) := by
  unfold puA; rw [if_neg (by omega), List.take_of_length_le (l := l.drop _) (by simp)]
theorem puA_end_out {l : List Pt} {p : Pt} (h : lowB l p.id = l.length) : puA l p l.length ++ [p] = l.take (lowB l p.id) ++ p :: l.drop (lowB l p.id) := by
  unfold puA; rw [if_pos (by omega), h]; simp
set_option maxRecDepth 10000 in
set_option maxHeartbeats 4000000 in
theorem refPut_ok (A : Option Addr) (c : Nat) (l : List Pt) (p : Pt) (w : World) (hs : Sl w 3 A l.length c (vp l)) (h0 : fieldChk l = 0) (hp0 : p.chk = 0) (hb : hasB l p.id = false) (h64 : l.length ≠ 64) :
    Calls Try.prog 20 #[.agg #[.slice A l.length c], .agg #[.int .i64 p.id, .int .i64 p.a, .int .i64 p.b]] w fun e w' => ∃ A' c', e = .returned (.tuple #[.agg #[.slice A' (l.take (lowB l p.id) ++ p :: l.drop (lowB l p.id)).length c'], .int .i64 0]) ∧ ∃ x, w' = ext w x ∧ Own (ext w x) w.heap.size 26 3 A' (l.take (lowB l p.id) ++ p :: l.drop (lowB l p.id)).length c' (vp (l.take (lowB l p.id) ++ p :: l.drop (lowB l p.id))) := by
  have q := Lib.hid (fun W hb => ref03Check_any A c l W (hs.bel (w' := W) hb))
  rw [h0] at q
  obtain ⟨hl, hchk, hinc⟩ := fieldChk_zero h0
  have e1 := Lib.hid (pchk2_lit p 0 hp0)
  have q2 := Lib.hid (fun W hb => at03_any A c l p.id W (hs.bel (w' := W) hb) (by omega))
  rw [atI_no hb] at q2
  have hz : ((l.length : Int) == 64) = false := by rw [beq_eq_false_iff_ne]; omega
  have hge : ∀ (k : Nat) (x : Pt), lowB l p.id ≤ k → l[k]? = some x → p.id < x.id := by
    intro k x hk hx
    have hlt : lowB l p.id < l.length := by have := (List.getElem?_eq_some_iff.1 hx).1; omega
    obtain ⟨z, hz⟩ : ∃ z, l[lowB l p.id]? = some z := ⟨_, List.getElem?_eq_getElem hlt⟩
    have h1 := lowB_ge hz
    have h2 : z.id ≠ p.id := by
      intro h; rw [hasB_at hinc, hz] at hb; simp [h] at hb
    rcases Nat.lt_or_ge (lowB l p.id) k with h3 | h3
    · have := inc_lt hinc h3 hz hx; omega
    · obtain rfl : k = lowB l p.id := by omega
      rw [hz] at hx; obtain rfl := Option.some.inj hx; omega
  have hlo := lowB_le l p.id
  have HG := Lib.hid hge; have HL := Lib.hid (fun k x hk hx => lowB_lt (l := l) (id := p.id) (i := k) (p := x) hk hx)
  obtain ⟨R, hR⟩ : ∃ R, l.take (lowB l p.id) ++ p :: l.drop (lowB l p.id) = R := ⟨_, rfl⟩
  rw [hR]
  have HR := Lib.hid hR
  clear h0 hp0 hb hchk hinc hge h64 hR
  go_enter Try.func20, Try.ntmps20
  go_wp2_with (first | (go_at_call 26; refine (q.out _ (by (try simp only [ext_ext]); repeat (first | exact Bel.refl _ | assumption | refine bel_and ?_ _ | refine bel_drews ?_ _ | refine Bel.ext ?_ _ | refine Bel.alloc ?_ _ | refine Bel.drewN ?_ _))).mono ?_; rintro e _ ⟨rfl, n1, rfl⟩) | (go_at_call 61; refine (e1.out _).mono ?_; rintro e _ ⟨rfl, n2, rfl⟩) | (go_at_call 66; refine (q2.out _ (by (try simp only [ext_ext]); repeat (first | exact Bel.refl _ | assumption | refine bel_and ?_ _ | refine bel_drews ?_ _ | refine Bel.ext ?_ _ | refine Bel.alloc ?_ _ | refine Bel.drewN ?_ _))).mono ?_; rintro e _ ⟨rfl, n3, rfl⟩))
  go_loopw [8, 9] (fun b i wr => ∃ (k : Nat) (A' : Option Addr) (c' : Nat), k ≤ l.length ∧ b = .bool (decide (lowB l p.id < k)) ∧ i = .int .i64 k ∧ ∃ y, wr = ext ((ext (((w.alloc (.cells #[.slice A l.length c] 24)).alloc (.cells #[.int .i64 p.id, .int .i64 p.a, .int .i64 p.b] 26)).alloc (.cells #[.slice none 0 0] 24)) ((n1.and n2).and n3)).alloc (.cells #[.slice A' (puA l p k).length c'] 24)) y ∧ Own (ext ((ext (((w.alloc (.cells #[.slice A l.length c] 24)).alloc (.cells #[.int .i64 p.id, .int .i64 p.a, .int .i64 p.b] 26)).alloc (.cells #[.slice none 0 0] 24)) ((n1.and n2).and n3)).alloc (.cells #[.slice A' (puA l p k).length c'] 24)) y) (w.heap.size + 1 + 1 + 1 + n1.len + n2.len + n3.len + 1) 26 3 A' (puA l p k).length c' (vp (puA l p k))) (fun _ i _ => l.length - (intOf i).toNat)
  case atStart => exact ⟨0, none, 0, Nat.zero_le _, rfl, rfl, by rw [puA_0]; exact nil_ret (Bel.refl _)⟩
  case round =>
    obtain ⟨k, A', c', hk, rfl, rfl, y, rfl, hown⟩ := hrel
    have hlen := puA_len (p := p) hk
    by_cases hlt : k < l.length
    · obtain ⟨x, hx⟩ : ∃ x, l[k]? = some x := ⟨_, List.getElem?_eq_getElem hlt⟩
      obtain ⟨b, o, rfl, hb⟩ := hs.at_ (by omega)
      obtain ⟨r0, r1, r2⟩ := pt_at hs hx
      have HX := Lib.hid hx; clear hx
      have hi0 : (0 : Int) ≤ (k : Int) := by omega
      have hi1 : (k : Int) < (l.length : Int) := by omega
      obtain ⟨n, hn⟩ : ∃ n, (puA l p k).length = n := ⟨_, rfl⟩
      rw [hn] at hown hlen ⊢
      have HN := Lib.hid hn; clear hn
      obtain ⟨xs, hxs⟩ : ∃ xs, vp (puA l p k) = xs := ⟨_, rfl⟩
      rw [hxs] at hown
      have HXS := Lib.hid hxs; clear hxs
      rcases Nat.lt_trichotomy k (lowB l p.id) with h | h | h
      · have hd : ¬ p.id < x.id := by have := HL.out k x h HX.out; omega
        have hdec : decide (lowB l p.id < k) = false := by rw [decide_eq_false_iff_not]; omega
        have HD : Hid (decide (lowB l p.id < k + 1) = false) := Lib.hid (by rw [decide_eq_false_iff_not]; omega)
        have HE := Lib.hid (puA_lt h HX.out)
        rw [hdec]
        clear h hdec
        go_wp2
        ((first | refine RegC.wp_region_ext1 (by kernel_rfl) (by kernel_rfl) ?_ | refine RegC.wp_region_ext0 (by kernel_rfl) (by kernel_rfl) ?_); (repeat (any_goals (first | go_big_quiet_step (fail) | (refine RegC.wpQuiet_split rfl rfl (fun hb => ?_) (fun hb => ?_) <;> simp only [hb])))); all_goals (refine wpQuiet_nil ?_; rintro _ ⟨nq, rfl⟩))
        go_wp2
        go_region_law ((refine step_append1 slt_pts (wB := ((ext (((w.alloc (.cells #[.slice (some ⟨b, o, none⟩) l.length c] 24)).alloc (.cells #[.int .i64 p.id, .int .i64 p.a, .int .i64 p.b] 26)).alloc (.cells #[.slice none 0 0] 24)) ((n1.and n2).and n3)).alloc (.cells #[.slice A' n c'] 24))) (by (try simp only [ext_ext]); repeat (first | exact Bel.refl _ | assumption | refine bel_and ?_ _ | refine bel_drews ?_ _ | refine Bel.ext ?_ _ | refine Bel.alloc ?_ _ | refine Bel.drewN ?_ _)) (hown.base_le (by simp [go_sem])) (by (try simp only [ext_ext]); repeat (first | exact Bel.refl _ | assumption | refine bel_and ?_ _ | refine bel_drews ?_ _ | refine Bel.ext ?_ _ | refine Bel.alloc ?_ _ | refine Bel.drewN ?_ _)) (by simp [Value.oneCell']) rfl (by omega) rfl _ _ rfl rfl rfl (by simp [go_sem]) ?_; rintro A2 c2 y2 own2))
        all_goals
          go_wp2
          go_roundw
          case rel =>
            have hz : (puA l p (k + 1)).length = n + 1 := by rw [HE.out, List.length_append, HN.out]; rfl
            have hx : vp (puA l p (k + 1)) = xs ++ x.cells := by rw [HE.out, vp_snoc, HXS.out]
            refine ⟨k + 1, A2, c2, by omega, by rw [HD.out], by go_num, ?_⟩
            rw [hz, hx]
            exact ⟨y2, rfl, (own_swap (by simp) own2 (by simp)).base_le (by simp [go_sem])⟩
          case measure => (first | (simp [intOf]; done) | (simp [intOf]; omega))
      · have hd : p.id < x.id := HG.out k x (by omega) HX.out
        have hdec : decide (lowB l p.id < k) = false := by rw [decide_eq_false_iff_not]; omega
        have HD : Hid (decide (lowB l p.id < k + 1) = true) := Lib.hid (by rw [decide_eq_true_eq]; omega)
        have HE := Lib.hid (puA_eq h HX.out)
        rw [hdec]
        clear h hdec
        go_wp2
        ((first | refine RegC.wp_region_ext1 (by kernel_rfl) (by kernel_rfl) ?_ | refine RegC.wp_region_ext0 (by kernel_rfl) (by kernel_rfl) ?_); (repeat (any_goals (first | go_big_quiet_step (fail) | (refine RegC.wpQuiet_split rfl rfl (fun hb => ?_) (fun hb => ?_) <;> simp only [hb])))); all_goals (refine wpQuiet_nil ?_; rintro _ ⟨nq, rfl⟩))
        go_wp2_with (at_builtin; refine append1_ext slt_pts (wB := ((ext (((w.alloc (.cells #[.slice (some ⟨b, o, none⟩) l.length c] 24)).alloc (.cells #[.int .i64 p.id, .int .i64 p.a, .int .i64 p.b] 26)).alloc (.cells #[.slice none 0 0] 24)) ((n1.and n2).and n3)).alloc (.cells #[.slice A' n c'] 24))) (by (try simp only [ext_ext]); repeat (first | exact Bel.refl _ | assumption | refine bel_and ?_ _ | refine bel_drews ?_ _ | refine Bel.ext ?_ _ | refine Bel.alloc ?_ _ | refine Bel.drewN ?_ _)) (hown.base_le (by simp [go_sem])) (by (try simp only [ext_ext]); repeat (first | exact Bel.refl _ | assumption | refine bel_and ?_ _ | refine bel_drews ?_ _ | refine Bel.ext ?_ _ | refine Bel.alloc ?_ _ | refine Bel.drewN ?_ _)) (by simp [Value.oneCell']) rfl (by omega) rfl _ _ rfl rfl rfl (by simp [go_sem]) ?_; rintro A2 c2 y2 own2)
        have own2' := own_swap (V' := ((ext (((w.alloc (.cells #[.slice (some ⟨b, o, none⟩) l.length c] 24)).alloc (.cells #[.int .i64 p.id, .int .i64 p.a, .int .i64 p.b] 26)).alloc (.cells #[.slice none 0 0] 24)) ((n1.and n2).and n3)).alloc (.cells #[.slice A2 (n + 1) c2] 24))) (by simp) own2 (by simp [go_sem])
        go_region_law ((refine step_append1 slt_pts (wB := ((ext (((w.alloc (.cells #[.slice (some ⟨b, o, none⟩) l.length c] 24)).alloc (.cells #[.int .i64 p.id, .int .i64 p.a, .int .i64 p.b] 26)).alloc (.cells #[.slice none 0 0] 24)) ((n1.and n2).and n3)).alloc (.cells #[.slice A2 (n + 1) c2] 24))) (by (try simp only [ext_ext]); repeat (first | exact Bel.refl _ | assumption | refine bel_and ?_ _ | refine bel_drews ?_ _ | refine Bel.ext ?_ _ | refine Bel.alloc ?_ _ | refine Bel.drewN ?_ _)) (own2'.base_le (by simp [go_sem])) (by (try simp only [ext_ext]); repeat (first | exact Bel.refl _ | assumption | refine bel_and ?_ _ | refine bel_drews ?_ _ | refine Bel.ext ?_ _ | refine Bel.alloc ?_ _ | refine Bel.drewN ?_ _)) (by simp [Value.oneCell']) rfl (by omega) rfl _ _ rfl rfl rfl (by simp [go_sem]) ?_; rintro A3 c3 y3 own3))
        all_goals
          go_wp2
          go_roundw
          case rel =>
            have hz : (puA l p (k + 1)).length = n + 1 + 1 := by rw [HE.out, List.length_append, List.length_append, HN.out]; rfl
            have hx : vp (puA l p (k + 1)) = xs ++ p.cells ++ x.cells := by rw [HE.out, vp_snoc, vp_snoc, HXS.out]
            refine ⟨k + 1, A3, c3, by omega, by rw [HD.out], by go_num, ?_⟩
            rw [hz, hx]
            exact ⟨y3, rfl, (own_swap (by simp) own3 (by simp)).base_le (by simp [go_sem])⟩
          case measure => (first | (simp [intOf]; done) | (simp [intOf]; omega))
      · have hdec : decide (lowB l p.id < k) = true := by rw [decide_eq_true_eq]; omega
        have HD : Hid (decide (lowB l p.id < k + 1) = true) := Lib.hid (by rw [decide_eq_true_eq]; omega)
        have HE := Lib.hid (puA_gt h HX.out)
        rw [hdec]
        clear h hdec
        go_wp2
        ((first | refine RegC.wp_region_ext1 (by kernel_rfl) (by kernel_rfl) ?_ | refine RegC.wp_region_ext0 (by kernel_rfl) (by kernel_rfl) ?_); (repeat (any_goals (first | go_big_quiet_step (fail) | (refine RegC.wpQuiet_split rfl rfl (fun hb => ?_) (fun hb => ?_) <;> simp only [hb])))); all_goals (refine wpQuiet_nil ?_; rintro _ ⟨nq, rfl⟩))
        go_wp2
        go_region_law ((refine step_append1 slt_pts (wB := ((ext (((w.alloc (.cells #[.slice (some ⟨b, o, none⟩) l.length c] 24)).alloc (.cells #[.int .i64 p.id, .int .i64 p.a, .int .i64 p.b] 26)).alloc (.cells #[.slice none 0 0] 24)) ((n1.and n2).and n3)).alloc (.cells #[.slice A' n c'] 24))) (by (try simp only [ext_ext]); repeat (first | exact Bel.refl _ | assumption | refine bel_and ?_ _ | refine bel_drews ?_ _ | refine Bel.ext ?_ _ | refine Bel.alloc ?_ _ | refine Bel.drewN ?_ _)) (hown.base_le (by simp [go_sem])) (by (try simp only [ext_ext]); repeat (first | exact Bel.refl _ | assumption | refine bel_and ?_ _ | refine bel_drews ?_ _ | refine Bel.ext ?_ _ | refine Bel.alloc ?_ _ | refine Bel.drewN ?_ _)) (by simp [Value.oneCell']) rfl (by omega) rfl _ _ rfl rfl rfl (by simp [go_sem]) ?_; rintro A2 c2 y2 own2))
        all_goals
          go_wp2
          go_roundw
          case rel =>
            have hz : (puA l p (k + 1)).length = n + 1 := by rw [HE.out, List.length_append, HN.out]; rfl
            have hx : vp (puA l p (k + 1)) = xs ++ x.cells := by rw [HE.out, vp_snoc, HXS.out]
            refine ⟨k + 1, A2, c2, by omega, by rw [HD.out], by go_num, ?_⟩
            rw [hz, hx]
            exact ⟨y2, rfl, (own_swap (by simp) own2 (by simp)).base_le (by simp [go_sem])⟩
          case measure => (first | (simp [intOf]; done) | (simp [intOf]; omega))
    · obtain rfl : k = l.length := by omega
      by_cases h : lowB l p.id < l.length
      · have hdec : decide (lowB l p.id < l.length) = true := decide_eq_true h
        have HE := (puA_end_in h).trans HR.out
        rw [HE] at hown hlen ⊢
        rw [hdec]
        clear h hdec HE
        go_wp2
        refine bodyPost_ret (v := .tuple #[.agg #[.slice A' R.length c'], .int .i64 0]) (by simp [results, Try.results20, go_sem]) rfl ?_
        exact ⟨_, _, rfl, own_ret (by (try simp only [ext_ext]); repeat (first | exact Bel.refl _ | assumption | refine bel_and ?_ _ | refine bel_drews ?_ _ | refine Bel.ext ?_ _ | refine Bel.alloc ?_ _ | refine Bel.drewN ?_ _)) (own_swap (by simp) hown (by simp [go_sem])) (Bel.refl _) (by simp [go_sem]; try omega)⟩
      · have hdec : decide (lowB l p.id < l.length) = false := decide_eq_false h
        have HE := (puA_end_out (l := l) (p := p) (by omega)).trans HR.out
        have hRl : R.length = (puA l p l.length).length + 1 := by rw [← HE]; simp
        have hRv : vp R = vp (puA l p l.length) ++ p.cells := by rw [← HE, vp_snoc]
        rw [hdec]
        obtain ⟨n, hn⟩ : ∃ n, (puA l p l.length).length = n := ⟨_, rfl⟩
        rw [hn] at hown hlen hRl ⊢
        have HRL := Lib.hid hRl
        have HRV := Lib.hid hRv
        clear h hdec HE hn hRl hRv
        go_wp2_with (at_builtin; refine append1_ext slt_pts (wB := ((ext (((w.alloc (.cells #[.slice A l.length c] 24)).alloc (.cells #[.int .i64 p.id, .int .i64 p.a, .int .i64 p.b] 26)).alloc (.cells #[.slice none 0 0] 24)) ((n1.and n2).and n3)).alloc (.cells #[.slice A' n c'] 24))) (by (try simp only [ext_ext]); repeat (first | exact Bel.refl _ | assumption | refine bel_and ?_ _ | refine bel_drews ?_ _ | refine Bel.ext ?_ _ | refine Bel.alloc ?_ _ | refine Bel.drewN ?_ _)) (hown.base_le (by simp [go_sem])) (by (try simp only [ext_ext]); repeat (first | exact Bel.refl _ | assumption | refine bel_and ?_ _ | refine bel_drews ?_ _ | refine Bel.ext ?_ _ | refine Bel.alloc ?_ _ | refine Bel.drewN ?_ _)) (by simp [Value.oneCell']) rfl (by omega) rfl _ _ rfl rfl rfl (by simp [go_sem]) ?_; rintro A2 c2 y2 own2)
        refine bodyPost_ret (v := .tuple #[.agg #[.slice A2 (n + 1) c2], .int .i64 0]) (by simp [results, Try.results20, go_sem]) rfl ?_
        rw [HRL.out, HRV.out]
        exact ⟨_, _, rfl, own_ret (by (try simp only [ext_ext]); repeat (first | exact Bel.refl _ | assumption | refine bel_and ?_ _ | refine bel_drews ?_ _ | refine Bel.ext ?_ _ | refine Bel.alloc ?_ _ | refine Bel.drewN ?_ _)) (own_swap (by simp) own2 (by simp [go_sem])) (Bel.refl _) (by simp [go_sem]; try omega)⟩
end Go.Proofs.Ytkcpnclgcmnlcaa


namespace Go.Proofs.Ytkcpnclgcmnlcaa
open Go.RowKit Go.Pel
theorem atI_ge {l : List Pt} {id : Int} (h : hasB l id = true) : 0 ≤ atI l id := by unfold atI; rw [h, if_pos rfl]; omega
set_option maxRecDepth 10000 in
set_option maxHeartbeats 2000000 in
theorem refFind_any (A : Option Addr) (c : Nat) (l : List Pt) (id : Int) (w : World) (hs : Sl w 3 A l.length c (vp l)) :
    Calls Try.prog 18 #[.agg #[.slice A l.length c], .int .i64 id] w fun e w' => e = .returned (.tuple #[.agg #[.int .i64 (fieldFind l id).1.id, .int .i64 (fieldFind l id).1.a, .int .i64 (fieldFind l id).1.b], .int .i64 (fieldFind l id).2]) ∧ ∃ x, w' = ext w x := by
  have q := Lib.hid (fun W hb => ref03Check_any A c l W (hs.bel (w' := W) hb))
  by_cases h : fieldChk l = 0
  · rw [h] at q
    obtain ⟨h64, hchk, hinc⟩ := fieldChk_zero h
    have q2 := Lib.hid (fun W hb => at03_any A c l id W (hs.bel (w' := W) hb) (by omega))
    cases hb : hasB l id with
    | true =>
      obtain ⟨h4, p, hp, h5⟩ := atI_low hinc hb
      have HF : Hid (fieldFind l id = (p, 0)) := Lib.hid (by simp [fieldFind, h, hb, hp])
      have hlt : lowB l id < l.length := (List.getElem?_eq_some_iff.1 hp).1
      rw [h4] at q2
      obtain ⟨k, hk⟩ : ∃ k, lowB l id = k := ⟨_, rfl⟩
      rw [hk] at q2 hp hlt
      obtain ⟨b, o, rfl, hbb⟩ := hs.at_ (by omega)
      obtain ⟨r0, r1, r2⟩ := pt_at hs hp
      have hlt' : (k : Int) < (l.length : Int) := by omega
      have hk0 : (0 : Int) ≤ (k : Int) := by omega
      clear h hchk hinc hb h4 hp h5 hk
      go_enter Try.func18, Try.ntmps18
      go_wp2_with (first | (go_at_call 26; refine (q.out _ (by (try simp only [ext_ext]); repeat (first | exact Bel.refl _ | assumption | refine bel_and ?_ _ | refine bel_drews ?_ _ | refine Bel.ext ?_ _ | refine Bel.alloc ?_ _ | refine Bel.drewN ?_ _))).mono ?_; rintro e _ ⟨rfl, nx, rfl⟩) | (go_at_call 66; refine (q2.out _ (by (try simp only [ext_ext]); repeat (first | exact Bel.refl _ | assumption | refine bel_and ?_ _ | refine bel_drews ?_ _ | refine Bel.ext ?_ _ | refine Bel.alloc ?_ _ | refine Bel.drewN ?_ _))).mono ?_; rintro e _ ⟨rfl, nx, rfl⟩))
      exact bodyPost_ret (v := .tuple #[.agg #[.int .i64 p.id, .int .i64 p.a, .int .i64 p.b], .int .i64 0]) (by simp [results, Try.results18, go_sem]) rfl ⟨by rw [HF.out], ext_of (by (try simp only [ext_ext]); repeat (first | exact Bel.refl _ | assumption | refine bel_and ?_ _ | refine bel_drews ?_ _ | refine Bel.ext ?_ _ | refine Bel.alloc ?_ _ | refine Bel.drewN ?_ _))⟩
    | false =>
      have HF : Hid (fieldFind l id = (Pt.zero, 6)) := Lib.hid (by simp [fieldFind, h, hb])
      rw [atI_no hb] at q2
      clear h hchk hinc hb
      go_enter Try.func18, Try.ntmps18
      go_wp2_with (first | (go_at_call 26; refine (q.out _ (by (try simp only [ext_ext]); repeat (first | exact Bel.refl _ | assumption | refine bel_and ?_ _ | refine bel_drews ?_ _ | refine Bel.ext ?_ _ | refine Bel.alloc ?_ _ | refine Bel.drewN ?_ _))).mono ?_; rintro e _ ⟨rfl, nx, rfl⟩) | (go_at_call 66; refine (q2.out _ (by (try simp only [ext_ext]); repeat (first | exact Bel.refl _ | assumption | refine bel_and ?_ _ | refine bel_drews ?_ _ | refine Bel.ext ?_ _ | refine Bel.alloc ?_ _ | refine Bel.drewN ?_ _))).mono ?_; rintro e _ ⟨rfl, nx, rfl⟩))
      exact bodyPost_ret (v := .tuple #[.agg #[.int .i64 0, .int .i64 0, .int .i64 0], .int .i64 6]) (by simp [results, Try.results18, go_sem]) rfl ⟨by (rw [HF.out]; rfl), ext_of (by (try simp only [ext_ext]); repeat (first | exact Bel.refl _ | assumption | refine bel_and ?_ _ | refine bel_drews ?_ _ | refine Bel.ext ?_ _ | refine Bel.alloc ?_ _ | refine Bel.drewN ?_ _))⟩
  · have HF : Hid (fieldFind l id = (Pt.zero, fieldChk l)) := Lib.hid (by simp [fieldFind, h])
    have hz : (fieldChk l == 0) = false := by simpa using h
    have hz' : (fieldChk l != 0) = true := by simpa using h
    clear h
    go_enter Try.func18, Try.ntmps18
    go_wp2_with ((go_at_call 26; refine (q.out _ (by (try simp only [ext_ext]); repeat (first | exact Bel.refl _ | assumption | refine bel_and ?_ _ | refine bel_drews ?_ _ | refine Bel.ext ?_ _ | refine Bel.alloc ?_ _ | refine Bel.drewN ?_ _))).mono ?_; rintro e _ ⟨rfl, nx, rfl⟩))
    exact bodyPost_ret (v := .tuple #[.agg #[.int .i64 0, .int .i64 0, .int .i64 0], .int .i64 (fieldChk l)]) (by simp [results, Try.results18, go_sem]) rfl ⟨by (rw [HF.out]; rfl), ext_of (by (try simp only [ext_ext]); repeat (first | exact Bel.refl _ | assumption | refine bel_and ?_ _ | refine bel_drews ?_ _ | refine Bel.ext ?_ _ | refine Bel.alloc ?_ _ | refine Bel.drewN ?_ _))⟩
theorem woB_take {l : List Pt} {id : Int} (hinc : incB l = true) (hb : hasB l id = true) : woB l id = l.take (lowB l id) ++ l.drop (lowB l id + 1) := by
  obtain ⟨_, p, hp, hid⟩ := atI_low hinc hb
  have hlt : lowB l id < l.length := (List.getElem?_eq_some_iff.1 hp).1
  have e : l = l.take (lowB l id) ++ p :: l.drop (lowB l id + 1) := by
    rw [List.getElem?_eq_some_iff] at hp
    obtain ⟨h, hp⟩ := hp
    rw [← hp, ← List.drop_eq_getElem_cons h, List.take_append_drop]
  have h1 : ∀ q ∈ l.take (lowB l id), decide (q.id ≠ id) = true := by
    intro q hq
    obtain ⟨i, hi⟩ := List.getElem?_of_mem hq
    rw [List.getElem?_take] at hi
    split at hi
    · have := lowB_lt ‹_› hi; simp; omega
    · cases hi
  have h2 : ∀ q ∈ l.drop (lowB l id + 1), decide (q.id ≠ id) = true := by
    intro q hq
    obtain ⟨i, hi⟩ := List.getElem?_of_mem hq
    rw [List.getElem?_drop] at hi
    have := inc_lt hinc (show lowB l id < lowB l id + 1 + i by omega) hp hi
    simp; omega
  unfold woB
  conv => lhs; rw [e]
  rw [List.filter_append, List.filter_cons_of_neg (by simpa using hid), List.filter_eq_self.2 h1, List.filter_eq_self.2 h2]
set_option maxRecDepth 10000 in
set_option maxHeartbeats 2000000 in
theorem refTake_any (A : Option Addr) (c : Nat) (l : List Pt) (id : Int) (w : World) (hs : Sl w 3 A l.length c (vp l)) :
    Calls Try.prog 22 #[.agg #[.slice A l.length c], .int .i64 id] w fun e w' => ∃ A' c', e = .returned (.tuple #[.agg #[.slice A' (fieldTake l id).1.length c'], .int .i64 (fieldTake l id).2]) ∧ ∃ x, w' = ext w x ∧ Own (ext w x) w.heap.size 26 3 A' (fieldTake l id).1.length c' (vp (fieldTake l id).1) := by
  have q := Lib.hid (fun W hb => ref03Check_any A c l W (hs.bel (w' := W) hb))
  by_cases h : fieldChk l = 0
  · rw [h] at q
    obtain ⟨h64, hchk, hinc⟩ := fieldChk_zero h
    have q2 := Lib.hid (fun W hb => at03_any A c l id W (hs.bel (w' := W) hb) (by omega))
    have q3 := Lib.hid (fun W hb => without_any A c l id W (hs.bel (w' := W) hb) (by omega))
    cases hb : hasB l id with
    | true =>
      have hT : fieldTake l id = (woB l id, 0) := by rw [woB_take hinc hb]; simp [fieldTake, h, hb]
      rw [hT]
      have hi : ¬ atI l id < 0 := by have := atI_ge hb; omega
      obtain ⟨i, hI⟩ : ∃ i, atI l id = i := ⟨_, rfl⟩
      rw [hI] at q2 hi
      obtain ⟨R, hR⟩ : ∃ R, woB l id = R := ⟨_, rfl⟩
      rw [hR] at q3 ⊢
      clear h hchk hinc hb hT hI hR
      go_enter Try.func22, Try.ntmps22
      go_wp2_with (first | (go_at_call 26; refine (q.out _ (by (try simp only [ext_ext]); repeat (first | exact Bel.refl _ | assumption | refine bel_and ?_ _ | refine bel_drews ?_ _ | refine Bel.ext ?_ _ | refine Bel.alloc ?_ _ | refine Bel.drewN ?_ _))).mono ?_; rintro e _ ⟨rfl, nx, rfl⟩) | (go_at_call 66; refine (q2.out _ (by (try simp only [ext_ext]); repeat (first | exact Bel.refl _ | assumption | refine bel_and ?_ _ | refine bel_drews ?_ _ | refine Bel.ext ?_ _ | refine Bel.alloc ?_ _ | refine Bel.drewN ?_ _))).mono ?_; rintro e _ ⟨rfl, nx, rfl⟩) | (go_at_call 72; refine (q3.out _ (by (try simp only [ext_ext]); repeat (first | exact Bel.refl _ | assumption | refine bel_and ?_ _ | refine bel_drews ?_ _ | refine Bel.ext ?_ _ | refine Bel.alloc ?_ _ | refine Bel.drewN ?_ _))).mono ?_; rintro e _ ⟨A2, c2, rfl, x2, rfl, own2⟩; simp only [ext_ext] at own2))
      refine bodyPost_ret (v := .tuple #[.agg #[.slice A2 R.length c2], .int .i64 0]) (by simp [results, Try.results22, go_sem]) rfl ?_
      exact ⟨_, _, rfl, own_ret (by (try simp only [ext_ext]); repeat (first | exact Bel.refl _ | assumption | refine bel_and ?_ _ | refine bel_drews ?_ _ | refine Bel.ext ?_ _ | refine Bel.alloc ?_ _ | refine Bel.drewN ?_ _)) (own_swap (by simp [go_sem]) own2 (by simp [go_sem])) (Bel.refl _) (by simp [go_sem])⟩
    | false =>
      have hT : fieldTake l id = ([], 6) := by simp [fieldTake, h, hb]
      rw [hT]
      rw [atI_no hb] at q2
      clear h hchk hinc hb hT
      go_enter Try.func22, Try.ntmps22
      go_wp2_with (first | (go_at_call 26; refine (q.out _ (by (try simp only [ext_ext]); repeat (first | exact Bel.refl _ | assumption | refine bel_and ?_ _ | refine bel_drews ?_ _ | refine Bel.ext ?_ _ | refine Bel.alloc ?_ _ | refine Bel.drewN ?_ _))).mono ?_; rintro e _ ⟨rfl, nx, rfl⟩) | (go_at_call 66; refine (q2.out _ (by (try simp only [ext_ext]); repeat (first | exact Bel.refl _ | assumption | refine bel_and ?_ _ | refine bel_drews ?_ _ | refine Bel.ext ?_ _ | refine Bel.alloc ?_ _ | refine Bel.drewN ?_ _))).mono ?_; rintro e _ ⟨rfl, nx, rfl⟩))
      (refine bodyPost_ret (v := .tuple #[.agg #[.slice none 0 0], .int .i64 (6)]) (by simp [results, Try.results22, go_sem]) rfl ?_; exact ⟨_, _, rfl, nil_ret (by (try simp only [ext_ext]); repeat (first | exact Bel.refl _ | assumption | refine bel_and ?_ _ | refine bel_drews ?_ _ | refine Bel.ext ?_ _ | refine Bel.alloc ?_ _ | refine Bel.drewN ?_ _))⟩)
  · have hT : fieldTake l id = ([], fieldChk l) := by simp [fieldTake, h]
    rw [hT]
    have hz : (fieldChk l == 0) = false := by simpa using h
    have hz' : (fieldChk l != 0) = true := by simpa using h
    clear h hT
    go_enter Try.func22, Try.ntmps22
    go_wp2_with ((go_at_call 26; refine (q.out _ (by (try simp only [ext_ext]); repeat (first | exact Bel.refl _ | assumption | refine bel_and ?_ _ | refine bel_drews ?_ _ | refine Bel.ext ?_ _ | refine Bel.alloc ?_ _ | refine Bel.drewN ?_ _))).mono ?_; rintro e _ ⟨rfl, nx, rfl⟩))
    (refine bodyPost_ret (v := .tuple #[.agg #[.slice none 0 0], .int .i64 (fieldChk l)]) (by simp [results, Try.results22, go_sem]) rfl ?_; exact ⟨_, _, rfl, nil_ret (by (try simp only [ext_ext]); repeat (first | exact Bel.refl _ | assumption | refine bel_and ?_ _ | refine bel_drews ?_ _ | refine Bel.ext ?_ _ | refine Bel.alloc ?_ _ | refine Bel.drewN ?_ _))⟩)
set_option maxRecDepth 10000 in
set_option maxHeartbeats 2000000 in
theorem refPut_any (A : Option Addr) (c : Nat) (l : List Pt) (p : Pt) (w : World) (hs : Sl w 3 A l.length c (vp l)) :
    Calls Try.prog 20 #[.agg #[.slice A l.length c], .agg #[.int .i64 p.id, .int .i64 p.a, .int .i64 p.b]] w fun e w' => ∃ A' c', e = .returned (.tuple #[.agg #[.slice A' (fieldPut l p).1.length c'], .int .i64 (fieldPut l p).2]) ∧ ∃ x, w' = ext w x ∧ Own (ext w x) w.heap.size 26 3 A' (fieldPut l p).1.length c' (vp (fieldPut l p).1) := by
  have q := Lib.hid (fun W hb => ref03Check_any A c l W (hs.bel (w' := W) hb))
  by_cases h : fieldChk l = 0
  · rw [h] at q
    obtain ⟨h64, hchk, hinc⟩ := fieldChk_zero h
    have q2 := Lib.hid (fun W hb => at03_any A c l p.id W (hs.bel (w' := W) hb) (by omega))
    rcases pt_cases p with hp | hp
    · have e1 := Lib.hid (pchk2_lit p 0 hp)
      cases hb : hasB l p.id with
      | true =>
        have hT : fieldPut l p = ([], 14) := by simp [fieldPut, h, hp, hb]
        rw [hT]
        have hi : 0 ≤ atI l p.id := atI_ge hb
        obtain ⟨i, hI⟩ : ∃ i, atI l p.id = i := ⟨_, rfl⟩
        rw [hI] at q2 hi
        clear h hchk hinc hb hT hI hp
        go_enter Try.func20, Try.ntmps20
        go_wp2_with (first | (go_at_call 26; refine (q.out _ (by (try simp only [ext_ext]); repeat (first | exact Bel.refl _ | assumption | refine bel_and ?_ _ | refine bel_drews ?_ _ | refine Bel.ext ?_ _ | refine Bel.alloc ?_ _ | refine Bel.drewN ?_ _))).mono ?_; rintro e _ ⟨rfl, nx, rfl⟩) | (go_at_call 61; refine (e1.out _).mono ?_; rintro e _ ⟨rfl, nx, rfl⟩) | (go_at_call 66; refine (q2.out _ (by (try simp only [ext_ext]); repeat (first | exact Bel.refl _ | assumption | refine bel_and ?_ _ | refine bel_drews ?_ _ | refine Bel.ext ?_ _ | refine Bel.alloc ?_ _ | refine Bel.drewN ?_ _))).mono ?_; rintro e _ ⟨rfl, nx, rfl⟩))
        (refine bodyPost_ret (v := .tuple #[.agg #[.slice none 0 0], .int .i64 (14)]) (by simp [results, Try.results20, go_sem]) rfl ?_; exact ⟨_, _, rfl, nil_ret (by (try simp only [ext_ext]); repeat (first | exact Bel.refl _ | assumption | refine bel_and ?_ _ | refine bel_drews ?_ _ | refine Bel.ext ?_ _ | refine Bel.alloc ?_ _ | refine Bel.drewN ?_ _))⟩)
      | false =>
        by_cases h0 : l.length = 64
        · have hT : fieldPut l p = ([], 18) := by simp [fieldPut, h, hp, hb, h0]
          rw [hT]
          rw [atI_no hb] at q2
          have h0' : ((l.length : Int) == 64) = true := by rw [beq_iff_eq]; omega
          clear h hchk hinc hb hT hp h0
          go_enter Try.func20, Try.ntmps20
          go_wp2_with (first | (go_at_call 26; refine (q.out _ (by (try simp only [ext_ext]); repeat (first | exact Bel.refl _ | assumption | refine bel_and ?_ _ | refine bel_drews ?_ _ | refine Bel.ext ?_ _ | refine Bel.alloc ?_ _ | refine Bel.drewN ?_ _))).mono ?_; rintro e _ ⟨rfl, nx, rfl⟩) | (go_at_call 61; refine (e1.out _).mono ?_; rintro e _ ⟨rfl, nx, rfl⟩) | (go_at_call 66; refine (q2.out _ (by (try simp only [ext_ext]); repeat (first | exact Bel.refl _ | assumption | refine bel_and ?_ _ | refine bel_drews ?_ _ | refine Bel.ext ?_ _ | refine Bel.alloc ?_ _ | refine Bel.drewN ?_ _))).mono ?_; rintro e _ ⟨rfl, nx, rfl⟩))
          (refine bodyPost_ret (v := .tuple #[.agg #[.slice none 0 0], .int .i64 (18)]) (by simp [results, Try.results20, go_sem]) rfl ?_; exact ⟨_, _, rfl, nil_ret (by (try simp only [ext_ext]); repeat (first | exact Bel.refl _ | assumption | refine bel_and ?_ _ | refine bel_drews ?_ _ | refine Bel.ext ?_ _ | refine Bel.alloc ?_ _ | refine Bel.drewN ?_ _))⟩)
        · have hT : fieldPut l p = (l.take (lowB l p.id) ++ p :: l.drop (lowB l p.id), 0) := by simp [fieldPut, h, hp, hb, h0]
          rw [hT]
          exact refPut_ok A c l p w hs h hp hb h0
    · have e1 := Lib.hid (pchk2_lit p 8 hp)
      have hT : fieldPut l p = ([], 8) := by simp [fieldPut, h, hp]
      rw [hT]
      clear h hchk hinc hT hp
      go_enter Try.func20, Try.ntmps20
      go_wp2_with (first | (go_at_call 26; refine (q.out _ (by (try simp only [ext_ext]); repeat (first | exact Bel.refl _ | assumption | refine bel_and ?_ _ | refine bel_drews ?_ _ | refine Bel.ext ?_ _ | refine Bel.alloc ?_ _ | refine Bel.drewN ?_ _))).mono ?_; rintro e _ ⟨rfl, nx, rfl⟩) | (go_at_call 61; refine (e1.out _).mono ?_; rintro e _ ⟨rfl, nx, rfl⟩))
      (refine bodyPost_ret (v := .tuple #[.agg #[.slice none 0 0], .int .i64 (8)]) (by simp [results, Try.results20, go_sem]) rfl ?_; exact ⟨_, _, rfl, nil_ret (by (try simp only [ext_ext]); repeat (first | exact Bel.refl _ | assumption | refine bel_and ?_ _ | refine bel_drews ?_ _ | refine Bel.ext ?_ _ | refine Bel.alloc ?_ _ | refine Bel.drewN ?_ _))⟩)
  · have hT : fieldPut l p = ([], fieldChk l) := by simp [fieldPut, h]
    rw [hT]
    have hz : (fieldChk l == 0) = false := by simpa using h
    have hz' : (fieldChk l != 0) = true := by simpa using h
    clear h hT
    go_enter Try.func20, Try.ntmps20
    go_wp2_with ((go_at_call 26; refine (q.out _ (by (try simp only [ext_ext]); repeat (first | exact Bel.refl _ | assumption | refine bel_and ?_ _ | refine bel_drews ?_ _ | refine Bel.ext ?_ _ | refine Bel.alloc ?_ _ | refine Bel.drewN ?_ _))).mono ?_; rintro e _ ⟨rfl, nx, rfl⟩))
    (refine bodyPost_ret (v := .tuple #[.agg #[.slice none 0 0], .int .i64 (fieldChk l)]) (by simp [results, Try.results20, go_sem]) rfl ?_; exact ⟨_, _, rfl, nil_ret (by (try simp only [ext_ext]); repeat (first | exact Bel.refl _ | assumption | refine bel_and ?_ _ | refine bel_drews ?_ _ | refine Bel.ext ?_ _ | refine Bel.alloc ?_ _ | refine Bel.drewN ?_ _))⟩)
set_option maxRecDepth 10000 in
set_option maxHeartbeats 2000000 in
theorem refChange_any (A : Option Addr) (c : Nat) (l : List Pt) (p : Pt) (w : World) (hs : Sl w 3 A l.length c (vp l)) (hn : A = none → c = 0) :
    Calls Try.prog 24 #[.agg #[.slice A l.length c], .agg #[.int .i64 p.id, .int .i64 p.a, .int .i64 p.b]] w fun e w' => ∃ A' c', e = .returned (.tuple #[.agg #[.slice A' (fieldChange l p).1.length c'], .int .i64 (fieldChange l p).2]) ∧ ∃ x, w' = ext w x ∧ Own (ext w x) w.heap.size 26 3 A' (fieldChange l p).1.length c' (vp (fieldChange l p).1) := by
  have q := Lib.hid (fun W hb => ref03Check_any A c l W (hs.bel (w' := W) hb))
  by_cases h : fieldChk l = 0
  · rw [h] at q
    obtain ⟨h64, hchk, hinc⟩ := fieldChk_zero h
    have q2 := Lib.hid (fun W hb => at03_any A c l p.id W (hs.bel (w' := W) hb) (by omega))
    rcases pt_cases p with hp | hp
    · have e1 := Lib.hid (pchk2_lit p 0 hp)
      cases hb : hasB l p.id with
      | true =>
        obtain ⟨h4, q0, hp0, h5⟩ := atI_low hinc hb
        have hlt : lowB l p.id < l.length := (List.getElem?_eq_some_iff.1 hp0).1
        have hT : fieldChange l p = (l.set (lowB l p.id) p, 0) := by simp [fieldChange, h, hp, hb]
        rw [hT]
        rw [h4] at q2
        simp only [List.length_set]
        rw [vp_set]
        obtain ⟨k, hk⟩ : ∃ k, lowB l p.id = k := ⟨_, rfl⟩
        rw [hk] at q2 hlt hp0 ⊢
        have hlt' : (k : Int) < (l.length : Int) := by omega
        have hk0 : (0 : Int) ≤ (k : Int) := by omega
        have HQ : Hid ((vp l)[k * 3]? = some (.int .i64 q0.id) ∧ (vp l)[k * 3 + 1]? = some (.int .i64 q0.a) ∧ (vp l)[k * 3 + 2]? = some (.int .i64 q0.b)) := Lib.hid ⟨fl_at pt_len hp0 0 (by omega), fl_at pt_len hp0 1 (by omega), fl_at pt_len hp0 2 (by omega)⟩
        have q3 := Lib.hid (fun W hb => twin_any A c l W (hs.bel (w' := W) hb) hn (by omega))
        clear h hp hb hinc hchk hT hk h4 h5 hp0
        go_enter Try.func24, Try.ntmps24
        go_wp2_with (first | (go_at_call 26; refine (q.out _ (by (try simp only [ext_ext]); repeat (first | exact Bel.refl _ | assumption | refine bel_and ?_ _ | refine bel_drews ?_ _ | refine Bel.ext ?_ _ | refine Bel.alloc ?_ _ | refine Bel.drewN ?_ _))).mono ?_; rintro e _ ⟨rfl, n1, rfl⟩) | (go_at_call 61; refine (e1.out _).mono ?_; rintro e _ ⟨rfl, n2, rfl⟩) | (go_at_call 66; refine (q2.out _ (by (try simp only [ext_ext]); repeat (first | exact Bel.refl _ | assumption | refine bel_and ?_ _ | refine bel_drews ?_ _ | refine Bel.ext ?_ _ | refine Bel.alloc ?_ _ | refine Bel.drewN ?_ _))).mono ?_; rintro e _ ⟨rfl, n3, rfl⟩))
        refine (q3.out _ (by (try simp only [ext_ext]); repeat (first | exact Bel.refl _ | assumption | refine bel_and ?_ _ | refine bel_drews ?_ _ | refine Bel.ext ?_ _ | refine Bel.alloc ?_ _ | refine Bel.drewN ?_ _))).mono ?_
        rintro e _ ⟨A2, c2, rfl, x2, rfl, own2⟩
        obtain ⟨a, rfl⟩ : ∃ a, A2 = some ⟨a, 0, none⟩ := by
          rcases own2.row with ⟨_, h0, _⟩ | ⟨a, cur, h0, _⟩
          · omega
          · exact ⟨a, h0⟩
        have HG : Hid (w.heap.size + 1 + 1 + 1 ≤ a ∧ a < (ext (ext (((w.alloc (.cells #[.slice A l.length c] 24)).alloc (.cells #[.int .i64 p.id, .int .i64 p.a, .int .i64 p.b] 26)).alloc (.cells #[.slice none 0 0] 24)) ((n1.and n2).and n3)) x2).heap.size) := Lib.hid (by
          rcases own2.row with ⟨h, _⟩ | ⟨a', cur, h, hr, _⟩
          · cases h
          · have e1 : a = a' := by injection h with h; injection h
            have h1 := hr.1
            have h2 := hr.lt
            rw [e1]
            simp [go_sem] at h1 h2 ⊢
            omega)
        simp only [ext_ext] at own2 HG ⊢
        generalize hZ : ((n1.and n2).and n3).and x2 = Z at own2 HG ⊢
        obtain ⟨W2, hW2⟩ : ∃ W2, ext (((w.alloc (.cells #[.slice A l.length c] 24)).alloc (.cells #[.int .i64 p.id, .int .i64 p.a, .int .i64 p.b] 26)).alloc (.cells #[.slice none 0 0] 24)) Z = W2 := ⟨_, rfl⟩
        rw [hW2] at own2 HG ⊢
        have hb2 : Bel w W2 := by rw [← hW2]; exact (by (try simp only [ext_ext]); repeat (first | exact Bel.refl _ | assumption | refine bel_and ?_ _ | refine bel_drews ?_ _ | refine Bel.ext ?_ _ | refine Bel.alloc ?_ _ | refine Bel.drewN ?_ _))
        have s0 : w.heap.size < W2.heap.size := by rw [← hW2]; simp [go_sem]
        have s1 : w.heap.size + 1 < W2.heap.size := by rw [← hW2]; simp [go_sem]
        have s2 : w.heap.size + 2 < W2.heap.size := by rw [← hW2]; simp [go_sem]
        have s3 : a < W2.heap.size := HG.out.2
        have f1 : W2.cell? ⟨w.heap.size + 1, 0, none⟩ = some (.int .i64 p.id) ∧ W2.cell? ⟨w.heap.size + 1, 1, none⟩ = some (.int .i64 p.a) ∧ W2.cell? ⟨w.heap.size + 1, 2, none⟩ = some (.int .i64 p.b) := by rw [← hW2]; simp [go_sem]
        have f2 : W2.cell? ⟨w.heap.size + 1 + 1, 0, none⟩ = some (.slice none 0 0) := by rw [← hW2]; simp [go_sem]
        have f3 : W2.frozen? ⟨w.heap.size + 1 + 1, 0, none⟩ = false := by rw [← hW2]; simp [go_sem]
        obtain ⟨g0, g1, g2⟩ := f1
        have b0 := own_cell own2 (j := k * 3) (u := .int .i64 q0.id) HQ.out.1
        have b1 := own_cell own2 (j := k * 3 + 1) (u := .int .i64 q0.a) HQ.out.2.1
        have b2 := own_cell own2 (j := k * 3 + 2) (u := .int .i64 q0.b) HQ.out.2.2
        have z0 := own_frozen own2 (k * 3)
        have z1 := own_frozen own2 (k * 3 + 1)
        have z2 := own_frozen own2 (k * 3 + 2)
        have hne1 : w.heap.size + 1 ≠ a := by have := HG.out; omega
        have hne2 : w.heap.size + 1 + 1 ≠ a := by have := HG.out; omega
        have hne3 : ¬ a = w.heap.size + 1 + 1 := by have := HG.out; omega
        clear hW2 hZ
        go_wp2
        have o1 := (World.ownsRow.stored own2 (k * 3) (.int .i64 p.id)).1
        have o2 := (World.ownsRow.stored o1 (k * 3 + 1) (.int .i64 p.a)).1
        have o3 := (World.ownsRow.stored o2 (k * 3 + 2) (.int .i64 p.b)).1
        have o4 := own_other (b := w.heap.size + 1 + 1) (o := 0) o3 (.slice (some ⟨a, 0, none⟩) l.length c2) (fun g h => block_ne hne2 h)
        have hga := HG.out
        have hb3 := ((((hb2.setCell (p := ⟨a, k * 3, none⟩) (by show w.heap.size ≤ a; omega) (.int .i64 p.id)).setCell (p := ⟨a, k * 3 + 1, none⟩) (by show w.heap.size ≤ a; omega) (.int .i64 p.a)).setCell (p := ⟨a, k * 3 + 2, none⟩) (by show w.heap.size ≤ a; omega) (.int .i64 p.b)).setCell (p := ⟨w.heap.size + 1 + 1, 0, none⟩) (by show w.heap.size ≤ w.heap.size + 1 + 1; omega) (.slice (some ⟨a, 0, none⟩) l.length c2)).alloc (.cells #[.slice (some ⟨a, 0, none⟩) l.length c2] 24)
        refine bodyPost_ret (v := .tuple #[.agg #[.slice (some ⟨a, 0, none⟩) l.length c2], .int .i64 0]) (by simp [results, Try.results24, go_sem, *]) rfl ?_
        exact ⟨_, _, rfl, own_ret hb3 (World.ownsRow.alloc o4 _) (Bel.refl _) (by simp [go_sem]; try omega)⟩
      | false =>
        have hT : fieldChange l p = ([], 6) := by simp [fieldChange, h, hp, hb]
        rw [hT]
        rw [atI_no hb] at q2
        clear h hp hb hinc hchk hT
        go_enter Try.func24, Try.ntmps24
        go_wp2_with (first | (go_at_call 26; refine (q.out _ (by (try simp only [ext_ext]); repeat (first | exact Bel.refl _ | assumption | refine bel_and ?_ _ | refine bel_drews ?_ _ | refine Bel.ext ?_ _ | refine Bel.alloc ?_ _ | refine Bel.drewN ?_ _))).mono ?_; rintro e _ ⟨rfl, nx, rfl⟩) | (go_at_call 61; refine (e1.out _).mono ?_; rintro e _ ⟨rfl, nx, rfl⟩) | (go_at_call 66; refine (q2.out _ (by (try simp only [ext_ext]); repeat (first | exact Bel.refl _ | assumption | refine bel_and ?_ _ | refine bel_drews ?_ _ | refine Bel.ext ?_ _ | refine Bel.alloc ?_ _ | refine Bel.drewN ?_ _))).mono ?_; rintro e _ ⟨rfl, nx, rfl⟩))
        (refine bodyPost_ret (v := .tuple #[.agg #[.slice none 0 0], .int .i64 (6)]) (by simp [results, Try.results24, go_sem]) rfl ?_; exact ⟨_, _, rfl, nil_ret (by (try simp only [ext_ext]); repeat (first | exact Bel.refl _ | assumption | refine bel_and ?_ _ | refine bel_drews ?_ _ | refine Bel.ext ?_ _ | refine Bel.alloc ?_ _ | refine Bel.drewN ?_ _))⟩)
    · have e1 := Lib.hid (pchk2_lit p 8 hp)
      have hT : fieldChange l p = ([], 8) := by simp [fieldChange, h, hp]
      rw [hT]
      clear h hp hinc hchk hT
      go_enter Try.func24, Try.ntmps24
      go_wp2_with (first | (go_at_call 26; refine (q.out _ (by (try simp only [ext_ext]); repeat (first | exact Bel.refl _ | assumption | refine bel_and ?_ _ | refine bel_drews ?_ _ | refine Bel.ext ?_ _ | refine Bel.alloc ?_ _ | refine Bel.drewN ?_ _))).mono ?_; rintro e _ ⟨rfl, nx, rfl⟩) | (go_at_call 61; refine (e1.out _).mono ?_; rintro e _ ⟨rfl, nx, rfl⟩))
      (refine bodyPost_ret (v := .tuple #[.agg #[.slice none 0 0], .int .i64 (8)]) (by simp [results, Try.results24, go_sem]) rfl ?_; exact ⟨_, _, rfl, nil_ret (by (try simp only [ext_ext]); repeat (first | exact Bel.refl _ | assumption | refine bel_and ?_ _ | refine bel_drews ?_ _ | refine Bel.ext ?_ _ | refine Bel.alloc ?_ _ | refine Bel.drewN ?_ _))⟩)
  · have hT : fieldChange l p = ([], fieldChk l) := by simp [fieldChange, h]
    have hz : (fieldChk l == 0) = false := by simpa using h
    have hz' : (fieldChk l != 0) = true := by simpa using h
    rw [hT]
    clear h hT
    go_enter Try.func24, Try.ntmps24
    go_wp2_with ((go_at_call 26; refine (q.out _ (by (try simp only [ext_ext]); repeat (first | exact Bel.refl _ | assumption | refine bel_and ?_ _ | refine bel_drews ?_ _ | refine Bel.ext ?_ _ | refine Bel.alloc ?_ _ | refine Bel.drewN ?_ _))).mono ?_; rintro e _ ⟨rfl, nx, rfl⟩))
    (refine bodyPost_ret (v := .tuple #[.agg #[.slice none 0 0], .int .i64 (fieldChk l)]) (by simp [results, Try.results24, go_sem]) rfl ?_; exact ⟨_, _, rfl, nil_ret (by (try simp only [ext_ext]); repeat (first | exact Bel.refl _ | assumption | refine bel_and ?_ _ | refine bel_drews ?_ _ | refine Bel.ext ?_ _ | refine Bel.alloc ?_ _ | refine Bel.drewN ?_ _))⟩)
end Go.Proofs.Ytkcpnclgcmnlcaa

namespace Go.Proofs.Ytkcpnclgcmnlcaa
open Go Go.Tx Go.Proofs.Try
abbrev Ri : Go.Tx.Row := (.int .i64 .nil)
abbrev Di : Type := (Int × Unit)
abbrev zi : Di := (0, ())
abbrev Rb : Go.Tx.Row := (.bool .nil)
abbrev Db : Type := (Bool × Unit)
abbrev zb : Db := (false, ())
abbrev Riii : Go.Tx.Row := (.int .i64 (.int .i64 (.int .i64 .nil)))
abbrev Diii : Type := (Int × (Int × (Int × Unit)))
abbrev ziii : Diii := (0, 0, 0, ())
abbrev RLiiiE : Go.Tx.Row := (.sl Riii .nil)
abbrev DLiiiE : Type := (List Diii × Unit)
abbrev zLiiiE : DLiiiE := ([], ())
abbrev RLiE : Go.Tx.Row := (.sl Ri .nil)
abbrev DLiE : Type := (List Di × Unit)
abbrev zLiE : DLiE := ([], ())
abbrev RLiELiE : Go.Tx.Row := (.sl Ri (.sl Ri .nil))
abbrev DLiELiE : Type := (List Di × (List Di × Unit))
abbrev zLiELiE : DLiELiE := ([], [], ())
abbrev Rii : Go.Tx.Row := (.int .i64 (.int .i64 .nil))
abbrev Dii : Type := (Int × (Int × Unit))
abbrev zii : Dii := (0, 0, ())
abbrev RLLiELiEE : Go.Tx.Row := (.sl RLiELiE .nil)
abbrev DLLiELiEE : Type := (List DLiELiE × Unit)
abbrev zLLiELiEE : DLLiELiEE := ([], ())
abbrev RLLiiiEE : Go.Tx.Row := (.sl RLiiiE .nil)
abbrev DLLiiiEE : Type := (List DLiiiE × Unit)
abbrev zLLiiiEE : DLLiiiEE := ([], ())
abbrev Ru : Go.Tx.Row := (.int .u64 .nil)
abbrev Du : Type := (Int × Unit)
abbrev zu : Du := (0, ())
abbrev Riu : Go.Tx.Row := (.int .i64 (.int .u64 .nil))
abbrev Diu : Type := (Int × (Int × Unit))
abbrev ziu : Diu := (0, 0, ())
abbrev Riiii : Go.Tx.Row := (.int .i64 (.int .i64 (.int .i64 (.int .i64 .nil))))
abbrev Diiii : Type := (Int × (Int × (Int × (Int × Unit))))
abbrev ziiii : Diiii := (0, 0, 0, 0, ())
abbrev Rbuu : Go.Tx.Row := (.bool (.int .u64 (.int .u64 .nil)))
abbrev Dbuu : Type := (Bool × (Int × (Int × Unit)))
abbrev zbuu : Dbuu := (false, 0, 0, ())
theorem mixed : prog.follows .mixedOrders = true := by kernel_rfl
def tysT : Tys := [(2, ⟨.int .i64, 1, false, [.int .i64 0], false⟩),
  (3, ⟨.int .i64, 1, false, [.int .i64 0], false⟩),
  (4, ⟨.bool, 1, false, [.bool false], false⟩),
  (22, ⟨.slice 26 Riii, 1, false, [.nils], false⟩),
  (24, ⟨.struct [(0, 22)], 1, true, [.nils], false⟩),
  (26, ⟨.struct [(0, 3), (1, 2), (2, 2)], 3, true, [.int .i64 0, .int .i64 0, .int .i64 0], false⟩),
  (29, ⟨.int .i64, 1, false, [.int .i64 0], false⟩),
  (45, ⟨.slice 3 Ri, 1, false, [.nils], false⟩),
  (47, ⟨.struct [(0, 45), (1, 45)], 2, true, [.nils, .nils], false⟩),
  (49, ⟨.struct [(0, 2), (1, 2)], 2, true, [.int .i64 0, .int .i64 0], false⟩),
  (82, ⟨.slice 47 RLiELiE, 1, false, [.nils], false⟩),
  (99, ⟨.slice 24 RLiiiE, 1, false, [.nils], false⟩),
  (100, ⟨.slice 29 Ri, 1, false, [.nils], false⟩),
  (114, ⟨.other, 1, false, [.undef], false⟩),
  (124, ⟨.other, 1, false, [.undef], false⟩),
  (136, ⟨.other, 1, false, [.undef], false⟩),
  (142, ⟨.int .u64, 1, false, [.int .u64 0], false⟩),
  (146, ⟨.other, 1, false, [.undef], false⟩),
  (149, ⟨.struct [(0, 2), (1, 142)], 2, true, [.int .i64 0, .int .u64 0], false⟩),
  (151, ⟨.array 2 2, 2, true, [.int .i64 0, .int .i64 0], false⟩),
  (152, ⟨.array 2 151, 4, true, [.int .i64 0, .int .i64 0, .int .i64 0, .int .i64 0], false⟩),
  (175, ⟨.struct [(0, 4), (1, 142), (2, 142)], 3, true, [.bool false, .int .u64 0, .int .u64 0], false⟩),
  (178, ⟨.int .u64, 1, false, [.int .u64 0], false⟩),
  (186, ⟨.other, 1, false, [.nilp], false⟩)]
theorem tys : TysOK prog tysT := tys_ok (by kernel_rfl) (by
  intro p hp he
  simp only [tysT, List.mem_cons, List.not_mem_nil, or_false] at hp
  rcases hp with rfl | rfl | rfl | rfl | rfl | rfl | rfl | rfl | rfl | rfl | rfl | rfl | rfl | rfl | rfl | rfl | rfl | rfl | rfl | rfl | rfl | rfl | rfl | rfl
  all_goals first | cases he)
end Go.Proofs.Ytkcpnclgcmnlcaa

namespace Go.Proofs.Ytkcpnclgcmnlcaa
open Go Go.Tx Go.Pel Go.Proofs.Try
set_option maxRecDepth 100000
set_option maxHeartbeats 0
def cmpInB (p q : Pt) (n d : Int) : Bool := decide (-1048576 ≤ p.a ∧ p.a ≤ 1048576) && decide (-1048576 ≤ p.b ∧ p.b ≤ 1048576) && decide (-1048576 ≤ q.a ∧ q.a ≤ 1048576) && decide (-1048576 ≤ q.b ∧ q.b ≤ 1048576) && decide (-9223372036854775807 ≤ n ∧ n ≤ 9223372036854775807) && decide (1 ≤ d ∧ d ≤ 9223372036854775807)
theorem cmpInB_iff {p q : Pt} {n d : Int} (h : cmpInB p q n d = true) : CmpIn p q n d := by
  unfold cmpInB at h
  simp only [Bool.and_eq_true, decide_eq_true_eq] at h
  exact ⟨h.1.1.1.1.1, h.1.1.1.1.2, h.1.1.1.2, h.1.1.2, h.1.2, h.2⟩
theorem cmpInB_of {p q : Pt} {n d : Int} (h : CmpIn p q n d) : cmpInB p q n d = true := by
  unfold cmpInB
  simp only [Bool.and_eq_true, decide_eq_true_eq]
  exact ⟨⟨⟨⟨⟨h.pa, h.pb⟩, h.qa⟩, h.qb⟩, h.n⟩, h.d⟩
abbrev ratio_Check_ps : List Pk := [.row Rii true]
abbrev ratio_Check_X : Type := Dii × Unit
abbrev ratio_Check_R : Type := Int
def ratio_Check_enc (r : ratio_Check_R) : LV × List Ob := (.int .i64 r, [])
def ratio_Check_sp (F : ratio_Check_X → Option ratio_Check_R) : Go.Tx.Spec := ⟨102, ratio_Check_ps, ratio_Check_R, F, ratio_Check_enc⟩
def ratio_Check_if (x : ratio_Check_X) : Bool := i64B x.1.1 && i64B x.1.2.1
def F_ratio_Check (d : Nat) (x : ratio_Check_X) : Option ratio_Check_R := bif ratio_Check_if x then some (ratioChk x.1.1 x.1.2.1) else none
theorem F_ratio_Check_eq (d : Nat) (x : ratio_Check_X) (h : ratio_Check_if x = true) : F_ratio_Check d x = some (ratioChk x.1.1 x.1.2.1) := by unfold F_ratio_Check; rw [h]; rfl
theorem ratio_Check_cok (d : Nat) : COK prog (ratio_Check_sp (F_ratio_Check d)) := by
  refine cok_old (body_of (fn := f102) (by kernel_rfl) (by kernel_rfl) (by kernel_rfl)) fun x r hx w φ vs hφ hv => ?_
  have hx : F_ratio_Check d x = some r := hx
  unfold F_ratio_Check at hx
  obtain ⟨hc, rfl⟩ := bif_some hx
  have hv : VRs (Emb.fro φ) [.agg [.int .i64 x.1.1, .int .i64 x.1.2.1]] vs := hv
  obtain ⟨v0, rfl, q0⟩ := vrs1 hv
  have r0 := vr_ratio q0; subst r0
  unfold ratio_Check_if at hc
  simp only [Bool.and_eq_true] at hc
  obtain ⟨h1, h2⟩ := hc
  refine (ratioCheck_any x.1.1 x.1.2.1 w (i64B_iff h1) (i64B_iff h2)).mono ?_
  rintro e w' ⟨rfl, y, rfl⟩
  exact gives_pure hφ (.int _ _) y
abbrev ref01_Check_ps : List Pk := [.row Rii true]
abbrev ref01_Check_X : Type := Dii × Unit
abbrev ref01_Check_R : Type := Int
def ref01_Check_enc (r : ref01_Check_R) : LV × List Ob := (.int .i64 r, [])
def ref01_Check_sp (F : ref01_Check_X → Option ref01_Check_R) : Go.Tx.Spec := ⟨89, ref01_Check_ps, ref01_Check_R, F, ref01_Check_enc⟩
def ref01_Check_if (x : ref01_Check_X) : Bool := i64B x.1.1 && i64B x.1.2.1
def F_ref01_Check (d : Nat) (x : ref01_Check_X) : Option ref01_Check_R := bif ref01_Check_if x then some (ratioChk x.1.1 x.1.2.1) else none
theorem F_ref01_Check_eq (d : Nat) (x : ref01_Check_X) (h : ref01_Check_if x = true) : F_ref01_Check d x = some (ratioChk x.1.1 x.1.2.1) := by unfold F_ref01_Check; rw [h]; rfl
theorem ref01_Check_cok (d : Nat) : COK prog (ref01_Check_sp (F_ref01_Check d)) := by
  refine cok_old (body_of (fn := f89) (by kernel_rfl) (by kernel_rfl) (by kernel_rfl)) fun x r hx w φ vs hφ hv => ?_
  have hx : F_ref01_Check d x = some r := hx
  unfold F_ref01_Check at hx
  obtain ⟨hc, rfl⟩ := bif_some hx
  have hv : VRs (Emb.fro φ) [.agg [.int .i64 x.1.1, .int .i64 x.1.2.1]] vs := hv
  obtain ⟨v0, rfl, q0⟩ := vrs1 hv
  have r0 := vr_ratio q0; subst r0
  unfold ref01_Check_if at hc
  simp only [Bool.and_eq_true] at hc
  obtain ⟨h1, h2⟩ := hc
  refine (ref01Check_any x.1.1 x.1.2.1 w (i64B_iff h1) (i64B_iff h2)).mono ?_
  rintro e w' ⟨rfl, y, rfl⟩
  exact gives_pure hφ (.int _ _) y
abbrev course_Check_ps : List Pk := [.row Riii true]
abbrev course_Check_X : Type := Diii × Unit
abbrev course_Check_R : Type := Int
def course_Check_enc (r : course_Check_R) : LV × List Ob := (.int .i64 r, [])
def course_Check_sp (F : course_Check_X → Option course_Check_R) : Go.Tx.Spec := ⟨67, course_Check_ps, course_Check_R, F, course_Check_enc⟩
def course_Check_if (x : course_Check_X) : Bool := true
def F_course_Check (d : Nat) (x : course_Check_X) : Option course_Check_R := bif course_Check_if x then some (pointChk (ofP x.1).id (ofP x.1).a (ofP x.1).b) else none
theorem F_course_Check_eq (d : Nat) (x : course_Check_X) (h : course_Check_if x = true) : F_course_Check d x = some (pointChk (ofP x.1).id (ofP x.1).a (ofP x.1).b) := by unfold F_course_Check; rw [h]; rfl
theorem course_Check_cok (d : Nat) : COK prog (course_Check_sp (F_course_Check d)) := by
  refine cok_old (body_of (fn := f67) (by kernel_rfl) (by kernel_rfl) (by kernel_rfl)) fun x r hx w φ vs hφ hv => ?_
  have hx : F_course_Check d x = some r := hx
  unfold F_course_Check at hx
  obtain ⟨hc, rfl⟩ := bif_some hx
  have hv : VRs (Emb.fro φ) [.agg [.int .i64 x.1.1, .int .i64 x.1.2.1, .int .i64 x.1.2.2.1]] vs := hv
  obtain ⟨v0, rfl, q0⟩ := vrs1 hv
  have r0 := vr_point (p := x.1) q0; subst r0
  refine (courseCheck_any (ofP x.1).id (ofP x.1).a (ofP x.1).b w).mono ?_
  rintro e w' ⟨rfl, y, rfl⟩
  exact gives_pure hφ (.int _ _) y
abbrev ref02_Check_ps : List Pk := [.row Riii true]
abbrev ref02_Check_X : Type := Diii × Unit
abbrev ref02_Check_R : Type := Int
def ref02_Check_enc (r : ref02_Check_R) : LV × List Ob := (.int .i64 r, [])
def ref02_Check_sp (F : ref02_Check_X → Option ref02_Check_R) : Go.Tx.Spec := ⟨61, ref02_Check_ps, ref02_Check_R, F, ref02_Check_enc⟩
def ref02_Check_if (x : ref02_Check_X) : Bool := true
def F_ref02_Check (d : Nat) (x : ref02_Check_X) : Option ref02_Check_R := bif ref02_Check_if x then some (pointChk (ofP x.1).id (ofP x.1).a (ofP x.1).b) else none
theorem F_ref02_Check_eq (d : Nat) (x : ref02_Check_X) (h : ref02_Check_if x = true) : F_ref02_Check d x = some (pointChk (ofP x.1).id (ofP x.1).a (ofP x.1).b) := by unfold F_ref02_Check; rw [h]; rfl
theorem ref02_Check_cok (d : Nat) : COK prog (ref02_Check_sp (F_ref02_Check d)) := by
  refine cok_old (body_of (fn := f61) (by kernel_rfl) (by kernel_rfl) (by kernel_rfl)) fun x r hx w φ vs hφ hv => ?_
  have hx : F_ref02_Check d x = some r := hx
  unfold F_ref02_Check at hx
  obtain ⟨hc, rfl⟩ := bif_some hx
  have hv : VRs (Emb.fro φ) [.agg [.int .i64 x.1.1, .int .i64 x.1.2.1, .int .i64 x.1.2.2.1]] vs := hv
  obtain ⟨v0, rfl, q0⟩ := vrs1 hv
  have r0 := vr_point (p := x.1) q0; subst r0
  refine (ref02Check_any (ofP x.1).id (ofP x.1).a (ofP x.1).b w).mono ?_
  rintro e w' ⟨rfl, y, rfl⟩
  exact gives_pure hφ (.int _ _) y
abbrev course_compare_ps : List Pk := [.row Riii true, .row Riii true, .row Rii true]
abbrev course_compare_X : Type := Diii × Diii × Dii × Unit
abbrev course_compare_R : Type := Int
def course_compare_enc (r : course_compare_R) : LV × List Ob := (.int .i64 r, [])
def course_compare_sp (F : course_compare_X → Option course_compare_R) : Go.Tx.Spec := ⟨95, course_compare_ps, course_compare_R, F, course_compare_enc⟩
def course_compare_if (x : course_compare_X) : Bool := cmpInB (ofP x.1) (ofP x.2.1) x.2.2.1.1 x.2.2.1.2.1
def F_course_compare (d : Nat) (x : course_compare_X) : Option course_compare_R := bif course_compare_if x then some (cmpC (ofP x.1) (ofP x.2.1) x.2.2.1.1 x.2.2.1.2.1) else none
theorem F_course_compare_eq (d : Nat) (x : course_compare_X) (h : course_compare_if x = true) : F_course_compare d x = some (cmpC (ofP x.1) (ofP x.2.1) x.2.2.1.1 x.2.2.1.2.1) := by unfold F_course_compare; rw [h]; rfl
theorem course_compare_cok (d : Nat) : COK prog (course_compare_sp (F_course_compare d)) := by
  refine cok_old (body_of (fn := f95) (by kernel_rfl) (by kernel_rfl) (by kernel_rfl)) fun x r hx w φ vs hφ hv => ?_
  have hx : F_course_compare d x = some r := hx
  unfold F_course_compare at hx
  obtain ⟨hc, rfl⟩ := bif_some hx
  have hv : VRs (Emb.fro φ) [.agg [.int .i64 x.1.1, .int .i64 x.1.2.1, .int .i64 x.1.2.2.1], .agg [.int .i64 x.2.1.1, .int .i64 x.2.1.2.1, .int .i64 x.2.1.2.2.1], .agg [.int .i64 x.2.2.1.1, .int .i64 x.2.2.1.2.1]] vs := hv
  obtain ⟨v0, vs, rfl, q0, hv⟩ := VRs.uncons hv
  obtain ⟨v1, vs, rfl, q1, hv⟩ := VRs.uncons hv
  obtain ⟨v2, rfl, q2⟩ := vrs1 hv
  have r0 := vr_point (p := x.1) q0; subst r0
  have r1 := vr_point (p := x.2.1) q1; subst r1
  have r2 := vr_ratio q2; subst r2
  unfold course_compare_if at hc
  have h1 := hc
  refine (compare_any (ofP x.1) (ofP x.2.1) x.2.2.1.1 x.2.2.1.2.1 w (cmpInB_iff h1)).mono ?_
  rintro e w' ⟨rfl, y, rfl⟩
  exact gives_pure hφ (.int _ _) y
abbrev ref02_Far_ps : List Pk := [.row Riii true, .row Riii true, .row Rii true]
abbrev ref02_Far_X : Type := Diii × Diii × Dii × Unit
abbrev ref02_Far_R : Type := Int
def ref02_Far_enc (r : ref02_Far_R) : LV × List Ob := (.int .i64 r, [])
def ref02_Far_sp (F : ref02_Far_X → Option ref02_Far_R) : Go.Tx.Spec := ⟨127, ref02_Far_ps, ref02_Far_R, F, ref02_Far_enc⟩
def ref02_Far_if (x : ref02_Far_X) : Bool := cmpInB (ofP x.1) (ofP x.2.1) x.2.2.1.1 x.2.2.1.2.1
def F_ref02_Far (d : Nat) (x : ref02_Far_X) : Option ref02_Far_R := bif ref02_Far_if x then some (cmpZ (farD (ofP x.1) (ofP x.2.1) x.2.2.1.1 x.2.2.1.2.1) 0) else none
theorem F_ref02_Far_eq (d : Nat) (x : ref02_Far_X) (h : ref02_Far_if x = true) : F_ref02_Far d x = some (cmpZ (farD (ofP x.1) (ofP x.2.1) x.2.2.1.1 x.2.2.1.2.1) 0) := by unfold F_ref02_Far; rw [h]; rfl
theorem ref02_Far_cok (d : Nat) : COK prog (ref02_Far_sp (F_ref02_Far d)) := by
  refine cok_old (body_of (fn := f127) (by kernel_rfl) (by kernel_rfl) (by kernel_rfl)) fun x r hx w φ vs hφ hv => ?_
  have hx : F_ref02_Far d x = some r := hx
  unfold F_ref02_Far at hx
  obtain ⟨hc, rfl⟩ := bif_some hx
  have hv : VRs (Emb.fro φ) [.agg [.int .i64 x.1.1, .int .i64 x.1.2.1, .int .i64 x.1.2.2.1], .agg [.int .i64 x.2.1.1, .int .i64 x.2.1.2.1, .int .i64 x.2.1.2.2.1], .agg [.int .i64 x.2.2.1.1, .int .i64 x.2.2.1.2.1]] vs := hv
  obtain ⟨v0, vs, rfl, q0, hv⟩ := VRs.uncons hv
  obtain ⟨v1, vs, rfl, q1, hv⟩ := VRs.uncons hv
  obtain ⟨v2, rfl, q2⟩ := vrs1 hv
  have r0 := vr_point (p := x.1) q0; subst r0
  have r1 := vr_point (p := x.2.1) q1; subst r1
  have r2 := vr_ratio q2; subst r2
  unfold ref02_Far_if at hc
  have h1 := hc
  refine (refFar_any (ofP x.1) (ofP x.2.1) x.2.2.1.1 x.2.2.1.2.1 w (cmpInB_iff h1)).mono ?_
  rintro e w' ⟨rfl, y, rfl⟩
  exact gives_pure hφ (.int _ _) y
abbrev ref02_Leads_ps : List Pk := [.row Riii true, .row Riii true, .row Rii true]
abbrev ref02_Leads_X : Type := Diii × Diii × Dii × Unit
abbrev ref02_Leads_R : Type := Bool
def ref02_Leads_enc (r : ref02_Leads_R) : LV × List Ob := (.bool r, [])
def ref02_Leads_sp (F : ref02_Leads_X → Option ref02_Leads_R) : Go.Tx.Spec := ⟨115, ref02_Leads_ps, ref02_Leads_R, F, ref02_Leads_enc⟩
def ref02_Leads_if (x : ref02_Leads_X) : Bool := cmpInB (ofP x.1) (ofP x.2.1) x.2.2.1.1 x.2.2.1.2.1
def F_ref02_Leads (d : Nat) (x : ref02_Leads_X) : Option ref02_Leads_R := bif ref02_Leads_if x then some (leads (ofP x.1) (ofP x.2.1) x.2.2.1.1 x.2.2.1.2.1) else none
theorem F_ref02_Leads_eq (d : Nat) (x : ref02_Leads_X) (h : ref02_Leads_if x = true) : F_ref02_Leads d x = some (leads (ofP x.1) (ofP x.2.1) x.2.2.1.1 x.2.2.1.2.1) := by unfold F_ref02_Leads; rw [h]; rfl
theorem ref02_Leads_cok (d : Nat) : COK prog (ref02_Leads_sp (F_ref02_Leads d)) := by
  refine cok_old (body_of (fn := f115) (by kernel_rfl) (by kernel_rfl) (by kernel_rfl)) fun x r hx w φ vs hφ hv => ?_
  have hx : F_ref02_Leads d x = some r := hx
  unfold F_ref02_Leads at hx
  obtain ⟨hc, rfl⟩ := bif_some hx
  have hv : VRs (Emb.fro φ) [.agg [.int .i64 x.1.1, .int .i64 x.1.2.1, .int .i64 x.1.2.2.1], .agg [.int .i64 x.2.1.1, .int .i64 x.2.1.2.1, .int .i64 x.2.1.2.2.1], .agg [.int .i64 x.2.2.1.1, .int .i64 x.2.2.1.2.1]] vs := hv
  obtain ⟨v0, vs, rfl, q0, hv⟩ := VRs.uncons hv
  obtain ⟨v1, vs, rfl, q1, hv⟩ := VRs.uncons hv
  obtain ⟨v2, rfl, q2⟩ := vrs1 hv
  have r0 := vr_point (p := x.1) q0; subst r0
  have r1 := vr_point (p := x.2.1) q1; subst r1
  have r2 := vr_ratio q2; subst r2
  unfold ref02_Leads_if at hc
  have h1 := hc
  refine (refLeads_any (ofP x.1) (ofP x.2.1) x.2.2.1.1 x.2.2.1.2.1 w (cmpInB_iff h1)).mono ?_
  rintro e w' ⟨rfl, y, rfl⟩
  exact gives_pure hφ (.bool _) y
abbrev course_two_ps : List Pk := [.row Riii true, .row Riii true, .row Rii true]
abbrev course_two_X : Type := Diii × Diii × Dii × Unit
abbrev course_two_R : Type := Int
def course_two_enc (r : course_two_R) : LV × List Ob := (.int .i64 r, [])
def course_two_sp (F : course_two_X → Option course_two_R) : Go.Tx.Spec := ⟨94, course_two_ps, course_two_R, F, course_two_enc⟩
def course_two_if (x : course_two_X) : Bool := i64B x.2.2.1.1 && i64B x.2.2.1.2.1
def F_course_two (d : Nat) (x : course_two_X) : Option course_two_R := bif course_two_if x then some (twoChk (ofP x.1) (ofP x.2.1) x.2.2.1.1 x.2.2.1.2.1) else none
theorem F_course_two_eq (d : Nat) (x : course_two_X) (h : course_two_if x = true) : F_course_two d x = some (twoChk (ofP x.1) (ofP x.2.1) x.2.2.1.1 x.2.2.1.2.1) := by unfold F_course_two; rw [h]; rfl
theorem course_two_cok (d : Nat) : COK prog (course_two_sp (F_course_two d)) := by
  refine cok_old (body_of (fn := f94) (by kernel_rfl) (by kernel_rfl) (by kernel_rfl)) fun x r hx w φ vs hφ hv => ?_
  have hx : F_course_two d x = some r := hx
  unfold F_course_two at hx
  obtain ⟨hc, rfl⟩ := bif_some hx
  have hv : VRs (Emb.fro φ) [.agg [.int .i64 x.1.1, .int .i64 x.1.2.1, .int .i64 x.1.2.2.1], .agg [.int .i64 x.2.1.1, .int .i64 x.2.1.2.1, .int .i64 x.2.1.2.2.1], .agg [.int .i64 x.2.2.1.1, .int .i64 x.2.2.1.2.1]] vs := hv
  obtain ⟨v0, vs, rfl, q0, hv⟩ := VRs.uncons hv
  obtain ⟨v1, vs, rfl, q1, hv⟩ := VRs.uncons hv
  obtain ⟨v2, rfl, q2⟩ := vrs1 hv
  have r0 := vr_point (p := x.1) q0; subst r0
  have r1 := vr_point (p := x.2.1) q1; subst r1
  have r2 := vr_ratio q2; subst r2
  unfold course_two_if at hc
  simp only [Bool.and_eq_true] at hc
  obtain ⟨h1, h2⟩ := hc
  refine (two_any (ofP x.1) (ofP x.2.1) x.2.2.1.1 x.2.2.1.2.1 w (i64B_iff h1) (i64B_iff h2)).mono ?_
  rintro e w' ⟨rfl, y, rfl⟩
  exact gives_pure hφ (.int _ _) y
abbrev course_Ahead_ps : List Pk := [.row Riii true, .row Riii true, .row Rii true]
abbrev course_Ahead_X : Type := Diii × Diii × Dii × Unit
abbrev course_Ahead_R : Type := Bool × Int
def course_Ahead_enc (r : course_Ahead_R) : LV × List Ob := (.tup [.bool r.1, .int .i64 r.2], [])
def course_Ahead_sp (F : course_Ahead_X → Option course_Ahead_R) : Go.Tx.Spec := ⟨58, course_Ahead_ps, course_Ahead_R, F, course_Ahead_enc⟩
def course_Ahead_if (x : course_Ahead_X) : Bool := i64B x.2.2.1.1 && i64B x.2.2.1.2.1
def F_course_Ahead (d : Nat) (x : course_Ahead_X) : Option course_Ahead_R := bif course_Ahead_if x then some ((aheadV (ofP x.1) (ofP x.2.1) x.2.2.1.1 x.2.2.1.2.1).1, (aheadV (ofP x.1) (ofP x.2.1) x.2.2.1.1 x.2.2.1.2.1).2) else none
theorem F_course_Ahead_eq (d : Nat) (x : course_Ahead_X) (h : course_Ahead_if x = true) : F_course_Ahead d x = some ((aheadV (ofP x.1) (ofP x.2.1) x.2.2.1.1 x.2.2.1.2.1).1, (aheadV (ofP x.1) (ofP x.2.1) x.2.2.1.1 x.2.2.1.2.1).2) := by unfold F_course_Ahead; rw [h]; rfl
theorem course_Ahead_cok (d : Nat) : COK prog (course_Ahead_sp (F_course_Ahead d)) := by
  refine cok_old (body_of (fn := f58) (by kernel_rfl) (by kernel_rfl) (by kernel_rfl)) fun x r hx w φ vs hφ hv => ?_
  have hx : F_course_Ahead d x = some r := hx
  unfold F_course_Ahead at hx
  obtain ⟨hc, rfl⟩ := bif_some hx
  have hv : VRs (Emb.fro φ) [.agg [.int .i64 x.1.1, .int .i64 x.1.2.1, .int .i64 x.1.2.2.1], .agg [.int .i64 x.2.1.1, .int .i64 x.2.1.2.1, .int .i64 x.2.1.2.2.1], .agg [.int .i64 x.2.2.1.1, .int .i64 x.2.2.1.2.1]] vs := hv
  obtain ⟨v0, vs, rfl, q0, hv⟩ := VRs.uncons hv
  obtain ⟨v1, vs, rfl, q1, hv⟩ := VRs.uncons hv
  obtain ⟨v2, rfl, q2⟩ := vrs1 hv
  have r0 := vr_point (p := x.1) q0; subst r0
  have r1 := vr_point (p := x.2.1) q1; subst r1
  have r2 := vr_ratio q2; subst r2
  unfold course_Ahead_if at hc
  simp only [Bool.and_eq_true] at hc
  obtain ⟨h1, h2⟩ := hc
  refine (ahead_any (ofP x.1) (ofP x.2.1) x.2.2.1.1 x.2.2.1.2.1 w (i64B_iff h1) (i64B_iff h2)).mono ?_
  rintro e w' ⟨rfl, y, rfl⟩
  exact gives_pure hφ (VR.tupL (VRs.cons (.bool _) (VRs.cons (.int _ _) VRs.nil))) y
abbrev ref03_Great_ps : List Pk := [.row RLiiiE true]
abbrev ref03_Great_X : Type := DLiiiE × Unit
abbrev ref03_Great_R : Type := Bool
def ref03_Great_enc (r : ref03_Great_R) : LV × List Ob := (.bool r, [])
def ref03_Great_sp (F : ref03_Great_X → Option ref03_Great_R) : Go.Tx.Spec := ⟨15, ref03_Great_ps, ref03_Great_R, F, ref03_Great_enc⟩
def ref03_Great_if (x : ref03_Great_X) : Bool := true
def F_ref03_Great (d : Nat) (x : ref03_Great_X) : Option ref03_Great_R := bif ref03_Great_if x then some (great (ptsL x.1.1).length) else none
theorem F_ref03_Great_eq (d : Nat) (x : ref03_Great_X) (h : ref03_Great_if x = true) : F_ref03_Great d x = some (great (ptsL x.1.1).length) := by unfold F_ref03_Great; rw [h]; rfl
theorem ref03_Great_cok (d : Nat) : COK prog (ref03_Great_sp (F_ref03_Great d)) := by
  refine cok_old (body_of (fn := f15) (by kernel_rfl) (by kernel_rfl) (by kernel_rfl)) fun x r hx w φ vs hφ hv => ?_
  have hx : F_ref03_Great d x = some r := hx
  unfold F_ref03_Great at hx
  obtain ⟨hc, rfl⟩ := bif_some hx
  have hv : VRs (Emb.fro φ) [.agg [.fz RP x.1.1]] vs := hv
  obtain ⟨v0, rfl, q0⟩ := vrs1 hv
  obtain ⟨A0, c0, rfl, s0, z0⟩ := vr_fld hφ q0
  refine (great_any A0 (ptsL x.1.1).length c0 w).mono ?_
  rintro e w' ⟨rfl, y, rfl⟩
  exact gives_pure hφ (.bool _) y
abbrev ref03_SameIDs_ps : List Pk := [.row RLiE false, .row RLiE false]
abbrev ref03_SameIDs_X : Type := DLiE × DLiE × Unit
abbrev ref03_SameIDs_R : Type := Bool
def ref03_SameIDs_enc (r : ref03_SameIDs_R) : LV × List Ob := (.bool r, [])
def ref03_SameIDs_sp (F : ref03_SameIDs_X → Option ref03_SameIDs_R) : Go.Tx.Spec := ⟨34, ref03_SameIDs_ps, ref03_SameIDs_R, F, ref03_SameIDs_enc⟩
def ref03_SameIDs_if (x : ref03_SameIDs_X) : Bool := decide ((idsI x.1.1).length ≤ 1000000) && decide ((idsI x.2.1.1).length ≤ 1000000)
def F_ref03_SameIDs (d : Nat) (x : ref03_SameIDs_X) : Option ref03_SameIDs_R := bif ref03_SameIDs_if x then some (decide ((idsI x.1.1) = (idsI x.2.1.1))) else none
theorem F_ref03_SameIDs_eq (d : Nat) (x : ref03_SameIDs_X) (h : ref03_SameIDs_if x = true) : F_ref03_SameIDs d x = some (decide ((idsI x.1.1) = (idsI x.2.1.1))) := by unfold F_ref03_SameIDs; rw [h]; rfl
theorem ref03_SameIDs_cok (d : Nat) : COK prog (ref03_SameIDs_sp (F_ref03_SameIDs d)) := by
  refine cok_old (body_of (fn := f34) (by kernel_rfl) (by kernel_rfl) (by kernel_rfl)) fun x r hx w φ vs hφ hv => ?_
  have hx : F_ref03_SameIDs d x = some r := hx
  unfold F_ref03_SameIDs at hx
  obtain ⟨hc, rfl⟩ := bif_some hx
  have hv : VRs (Emb.fro φ) [.fz RI x.1.1, .fz RI x.2.1.1] vs := hv
  obtain ⟨v0, vs, rfl, q0, hv⟩ := VRs.uncons hv
  obtain ⟨v1, rfl, q1⟩ := vrs1 hv
  obtain ⟨A0, c0, rfl, s0, z0⟩ := vr_idsI hφ q0
  obtain ⟨A1, c1, rfl, s1, z1⟩ := vr_idsI hφ q1
  unfold ref03_SameIDs_if at hc
  simp only [Bool.and_eq_true] at hc
  obtain ⟨h1, h2⟩ := hc
  replace h1 := of_decide_eq_true h1
  replace h2 := of_decide_eq_true h2
  refine (sameIDs_any A0 A1 c0 c1 (idsI x.1.1) (idsI x.2.1.1) w s0 s1 h1 h2).mono ?_
  rintro e w' ⟨rfl, y, rfl⟩
  exact gives_pure hφ (.bool _) y
abbrev field_Check_ps : List Pk := [.row RLiiiE true]
abbrev field_Check_X : Type := DLiiiE × Unit
abbrev field_Check_R : Type := Int
def field_Check_enc (r : field_Check_R) : LV × List Ob := (.int .i64 r, [])
def field_Check_sp (F : field_Check_X → Option field_Check_R) : Go.Tx.Spec := ⟨25, field_Check_ps, field_Check_R, F, field_Check_enc⟩
def field_Check_if (x : field_Check_X) : Bool := true
def F_field_Check (d : Nat) (x : field_Check_X) : Option field_Check_R := bif field_Check_if x then some (fieldChk (ptsL x.1.1)) else none
theorem F_field_Check_eq (d : Nat) (x : field_Check_X) (h : field_Check_if x = true) : F_field_Check d x = some (fieldChk (ptsL x.1.1)) := by unfold F_field_Check; rw [h]; rfl
theorem field_Check_cok (d : Nat) : COK prog (field_Check_sp (F_field_Check d)) := by
  refine cok_old (body_of (fn := f25) (by kernel_rfl) (by kernel_rfl) (by kernel_rfl)) fun x r hx w φ vs hφ hv => ?_
  have hx : F_field_Check d x = some r := hx
  unfold F_field_Check at hx
  obtain ⟨hc, rfl⟩ := bif_some hx
  have hv : VRs (Emb.fro φ) [.agg [.fz RP x.1.1]] vs := hv
  obtain ⟨v0, rfl, q0⟩ := vrs1 hv
  obtain ⟨A0, c0, rfl, s0, z0⟩ := vr_fld hφ q0
  refine (fieldCheck_any A0 c0 (ptsL x.1.1) w s0).mono ?_
  rintro e w' ⟨rfl, y, rfl⟩
  exact gives_pure hφ (.int _ _) y
abbrev ref03_Check_ps : List Pk := [.row RLiiiE true]
abbrev ref03_Check_X : Type := DLiiiE × Unit
abbrev ref03_Check_R : Type := Int
def ref03_Check_enc (r : ref03_Check_R) : LV × List Ob := (.int .i64 r, [])
def ref03_Check_sp (F : ref03_Check_X → Option ref03_Check_R) : Go.Tx.Spec := ⟨26, ref03_Check_ps, ref03_Check_R, F, ref03_Check_enc⟩
def ref03_Check_if (x : ref03_Check_X) : Bool := true
def F_ref03_Check (d : Nat) (x : ref03_Check_X) : Option ref03_Check_R := bif ref03_Check_if x then some (fieldChk (ptsL x.1.1)) else none
theorem F_ref03_Check_eq (d : Nat) (x : ref03_Check_X) (h : ref03_Check_if x = true) : F_ref03_Check d x = some (fieldChk (ptsL x.1.1)) := by unfold F_ref03_Check; rw [h]; rfl
theorem ref03_Check_cok (d : Nat) : COK prog (ref03_Check_sp (F_ref03_Check d)) := by
  refine cok_old (body_of (fn := f26) (by kernel_rfl) (by kernel_rfl) (by kernel_rfl)) fun x r hx w φ vs hφ hv => ?_
  have hx : F_ref03_Check d x = some r := hx
  unfold F_ref03_Check at hx
  obtain ⟨hc, rfl⟩ := bif_some hx
  have hv : VRs (Emb.fro φ) [.agg [.fz RP x.1.1]] vs := hv
  obtain ⟨v0, rfl, q0⟩ := vrs1 hv
  obtain ⟨A0, c0, rfl, s0, z0⟩ := vr_fld hφ q0
  refine (ref03Check_any A0 c0 (ptsL x.1.1) w s0).mono ?_
  rintro e w' ⟨rfl, y, rfl⟩
  exact gives_pure hφ (.int _ _) y
abbrev ref03_At_ps : List Pk := [.row RLiiiE true, .row Ri false]
abbrev ref03_At_X : Type := DLiiiE × Di × Unit
abbrev ref03_At_R : Type := Int
def ref03_At_enc (r : ref03_At_R) : LV × List Ob := (.int .i64 r, [])
def ref03_At_sp (F : ref03_At_X → Option ref03_At_R) : Go.Tx.Spec := ⟨66, ref03_At_ps, ref03_At_R, F, ref03_At_enc⟩
def ref03_At_if (x : ref03_At_X) : Bool := decide ((ptsL x.1.1).length ≤ 1000000)
def F_ref03_At (d : Nat) (x : ref03_At_X) : Option ref03_At_R := bif ref03_At_if x then some (atI (ptsL x.1.1) x.2.1.1) else none
theorem F_ref03_At_eq (d : Nat) (x : ref03_At_X) (h : ref03_At_if x = true) : F_ref03_At d x = some (atI (ptsL x.1.1) x.2.1.1) := by unfold F_ref03_At; rw [h]; rfl
theorem ref03_At_cok (d : Nat) : COK prog (ref03_At_sp (F_ref03_At d)) := by
  refine cok_old (body_of (fn := f66) (by kernel_rfl) (by kernel_rfl) (by kernel_rfl)) fun x r hx w φ vs hφ hv => ?_
  have hx : F_ref03_At d x = some r := hx
  unfold F_ref03_At at hx
  obtain ⟨hc, rfl⟩ := bif_some hx
  have hv : VRs (Emb.fro φ) [.agg [.fz RP x.1.1], .int .i64 x.2.1.1] vs := hv
  obtain ⟨v0, vs, rfl, q0, hv⟩ := VRs.uncons hv
  obtain ⟨v1, rfl, q1⟩ := vrs1 hv
  obtain ⟨A0, c0, rfl, s0, z0⟩ := vr_fld hφ q0
  have r1 := vr_int q1; subst r1
  unfold ref03_At_if at hc
  have h1 := hc
  replace h1 := of_decide_eq_true h1
  refine (at03_any A0 c0 (ptsL x.1.1) x.2.1.1 w s0 h1).mono ?_
  rintro e w' ⟨rfl, y, rfl⟩
  exact gives_pure hφ (.int _ _) y
abbrev ref03_Twin_ps : List Pk := [.row RLiiiE true]
abbrev ref03_Twin_X : Type := DLiiiE × Unit
abbrev ref03_Twin_R : Type := List Diii
def ref03_Twin_enc (r : ref03_Twin_R) : LV × List Ob := (.agg [.rs 0], [.rows Riii r])
def ref03_Twin_sp (F : ref03_Twin_X → Option ref03_Twin_R) : Go.Tx.Spec := ⟨16, ref03_Twin_ps, ref03_Twin_R, F, ref03_Twin_enc⟩
def ref03_Twin_if (x : ref03_Twin_X) : Bool := decide ((ptsL x.1.1).length ≤ 1000000)
def F_ref03_Twin (d : Nat) (x : ref03_Twin_X) : Option ref03_Twin_R := bif ref03_Twin_if x then some (toPs (ptsL x.1.1)) else none
theorem F_ref03_Twin_eq (d : Nat) (x : ref03_Twin_X) (h : ref03_Twin_if x = true) : F_ref03_Twin d x = some (toPs (ptsL x.1.1)) := by unfold F_ref03_Twin; rw [h]; rfl
theorem ref03_Twin_cok (d : Nat) : COK prog (ref03_Twin_sp (F_ref03_Twin d)) := by
  refine cok_old (body_of (fn := f16) (by kernel_rfl) (by kernel_rfl) (by kernel_rfl)) fun x r hx w φ vs hφ hv => ?_
  have hx : F_ref03_Twin d x = some r := hx
  unfold F_ref03_Twin at hx
  obtain ⟨hc, rfl⟩ := bif_some hx
  have hv : VRs (Emb.fro φ) [.agg [.fz RP x.1.1]] vs := hv
  obtain ⟨v0, rfl, q0⟩ := vrs1 hv
  obtain ⟨A0, c0, rfl, s0, z0⟩ := vr_fld hφ q0
  unfold ref03_Twin_if at hc
  have h1 := hc
  replace h1 := of_decide_eq_true h1
  refine (twin_any A0 c0 (ptsL x.1.1) w s0 z0 h1).mono ?_
  rintro e w' ⟨A', c', rfl, y, rfl, ho⟩
  exact gives_own hφ (τ := Riii) rfl (toPs_len _) ho (valsL_toP _) fun η e0 => VR.aggL (VRs.cons (.rs e0) VRs.nil)
abbrev ref03_Same_ps : List Pk := [.row RLiiiE true, .row RLiiiE true]
abbrev ref03_Same_X : Type := DLiiiE × DLiiiE × Unit
abbrev ref03_Same_R : Type := Bool
def ref03_Same_enc (r : ref03_Same_R) : LV × List Ob := (.bool r, [])
def ref03_Same_sp (F : ref03_Same_X → Option ref03_Same_R) : Go.Tx.Spec := ⟨27, ref03_Same_ps, ref03_Same_R, F, ref03_Same_enc⟩
def ref03_Same_if (x : ref03_Same_X) : Bool := decide ((ptsL x.1.1).length ≤ 1000000) && decide ((ptsL x.2.1.1).length ≤ 1000000)
def F_ref03_Same (d : Nat) (x : ref03_Same_X) : Option ref03_Same_R := bif ref03_Same_if x then some (decide ((ptsL x.1.1) = (ptsL x.2.1.1))) else none
theorem F_ref03_Same_eq (d : Nat) (x : ref03_Same_X) (h : ref03_Same_if x = true) : F_ref03_Same d x = some (decide ((ptsL x.1.1) = (ptsL x.2.1.1))) := by unfold F_ref03_Same; rw [h]; rfl
theorem ref03_Same_cok (d : Nat) : COK prog (ref03_Same_sp (F_ref03_Same d)) := by
  refine cok_old (body_of (fn := f27) (by kernel_rfl) (by kernel_rfl) (by kernel_rfl)) fun x r hx w φ vs hφ hv => ?_
  have hx : F_ref03_Same d x = some r := hx
  unfold F_ref03_Same at hx
  obtain ⟨hc, rfl⟩ := bif_some hx
  have hv : VRs (Emb.fro φ) [.agg [.fz RP x.1.1], .agg [.fz RP x.2.1.1]] vs := hv
  obtain ⟨v0, vs, rfl, q0, hv⟩ := VRs.uncons hv
  obtain ⟨v1, rfl, q1⟩ := vrs1 hv
  obtain ⟨A0, c0, rfl, s0, z0⟩ := vr_fld hφ q0
  obtain ⟨A1, c1, rfl, s1, z1⟩ := vr_fld hφ q1
  unfold ref03_Same_if at hc
  simp only [Bool.and_eq_true] at hc
  obtain ⟨h1, h2⟩ := hc
  replace h1 := of_decide_eq_true h1
  replace h2 := of_decide_eq_true h2
  refine (same03_any A0 A1 c0 c1 (ptsL x.1.1) (ptsL x.2.1.1) w s0 s1 h1 h2).mono ?_
  rintro e w' ⟨rfl, y, rfl⟩
  exact gives_pure hφ (.bool _) y
abbrev field_find_ps : List Pk := [.row RLiiiE true, .row Ri false]
abbrev field_find_X : Type := DLiiiE × Di × Unit
abbrev field_find_R : Type := Int × Bool
def field_find_enc (r : field_find_R) : LV × List Ob := (.tup [.int .i64 r.1, .bool r.2], [])
def field_find_sp (F : field_find_X → Option field_find_R) : Go.Tx.Spec := ⟨68, field_find_ps, field_find_R, F, field_find_enc⟩
def field_find_if (x : field_find_X) : Bool := decide ((ptsL x.1.1).length ≤ 1000000) && incB (ptsL x.1.1)
def F_field_find (d : Nat) (x : field_find_X) : Option field_find_R := bif field_find_if x then some ((lowB (ptsL x.1.1) x.2.1.1 : Int), hasB (ptsL x.1.1) x.2.1.1) else none
theorem F_field_find_eq (d : Nat) (x : field_find_X) (h : field_find_if x = true) : F_field_find d x = some ((lowB (ptsL x.1.1) x.2.1.1 : Int), hasB (ptsL x.1.1) x.2.1.1) := by unfold F_field_find; rw [h]; rfl
theorem field_find_cok (d : Nat) : COK prog (field_find_sp (F_field_find d)) := by
  refine cok_old (body_of (fn := f68) (by kernel_rfl) (by kernel_rfl) (by kernel_rfl)) fun x r hx w φ vs hφ hv => ?_
  have hx : F_field_find d x = some r := hx
  unfold F_field_find at hx
  obtain ⟨hc, rfl⟩ := bif_some hx
  have hv : VRs (Emb.fro φ) [.agg [.fz RP x.1.1], .int .i64 x.2.1.1] vs := hv
  obtain ⟨v0, vs, rfl, q0, hv⟩ := VRs.uncons hv
  obtain ⟨v1, rfl, q1⟩ := vrs1 hv
  obtain ⟨A0, c0, rfl, s0, z0⟩ := vr_fld hφ q0
  have r1 := vr_int q1; subst r1
  unfold field_find_if at hc
  simp only [Bool.and_eq_true] at hc
  obtain ⟨h1, h2⟩ := hc
  replace h1 := of_decide_eq_true h1
  refine (find_any A0 c0 (ptsL x.1.1) x.2.1.1 w s0 h1 h2).mono ?_
  rintro e w' ⟨rfl, y, rfl⟩
  exact gives_pure hφ (VR.tupL (VRs.cons (.int _ _) (VRs.cons (.bool _) VRs.nil))) y
abbrev field_Find_ps : List Pk := [.row RLiiiE true, .row Ri false]
abbrev field_Find_X : Type := DLiiiE × Di × Unit
abbrev field_Find_R : Type := Int × Int × Int × Int
def field_Find_enc (r : field_Find_R) : LV × List Ob := (.tup [.agg [.int .i64 r.1, .int .i64 r.2.1, .int .i64 r.2.2.1], .int .i64 r.2.2.2], [])
def field_Find_sp (F : field_Find_X → Option field_Find_R) : Go.Tx.Spec := ⟨17, field_Find_ps, field_Find_R, F, field_Find_enc⟩
def field_Find_if (x : field_Find_X) : Bool := true
def F_field_Find (d : Nat) (x : field_Find_X) : Option field_Find_R := bif field_Find_if x then some ((fieldFind (ptsL x.1.1) x.2.1.1).1.id, (fieldFind (ptsL x.1.1) x.2.1.1).1.a, (fieldFind (ptsL x.1.1) x.2.1.1).1.b, (fieldFind (ptsL x.1.1) x.2.1.1).2) else none
theorem F_field_Find_eq (d : Nat) (x : field_Find_X) (h : field_Find_if x = true) : F_field_Find d x = some ((fieldFind (ptsL x.1.1) x.2.1.1).1.id, (fieldFind (ptsL x.1.1) x.2.1.1).1.a, (fieldFind (ptsL x.1.1) x.2.1.1).1.b, (fieldFind (ptsL x.1.1) x.2.1.1).2) := by unfold F_field_Find; rw [h]; rfl
theorem field_Find_cok (d : Nat) : COK prog (field_Find_sp (F_field_Find d)) := by
  refine cok_old (body_of (fn := f17) (by kernel_rfl) (by kernel_rfl) (by kernel_rfl)) fun x r hx w φ vs hφ hv => ?_
  have hx : F_field_Find d x = some r := hx
  unfold F_field_Find at hx
  obtain ⟨hc, rfl⟩ := bif_some hx
  have hv : VRs (Emb.fro φ) [.agg [.fz RP x.1.1], .int .i64 x.2.1.1] vs := hv
  obtain ⟨v0, vs, rfl, q0, hv⟩ := VRs.uncons hv
  obtain ⟨v1, rfl, q1⟩ := vrs1 hv
  obtain ⟨A0, c0, rfl, s0, z0⟩ := vr_fld hφ q0
  have r1 := vr_int q1; subst r1
  refine (fieldFind_any A0 c0 (ptsL x.1.1) x.2.1.1 w s0).mono ?_
  rintro e w' ⟨rfl, y, rfl⟩
  exact gives_pure hφ (VR.tupL (VRs.cons (VR.aggL (VRs.cons (.int _ _) (VRs.cons (.int _ _) (VRs.cons (.int _ _) VRs.nil)))) (VRs.cons (.int _ _) VRs.nil))) y
abbrev ref03_Find_ps : List Pk := [.row RLiiiE true, .row Ri false]
abbrev ref03_Find_X : Type := DLiiiE × Di × Unit
abbrev ref03_Find_R : Type := Int × Int × Int × Int
def ref03_Find_enc (r : ref03_Find_R) : LV × List Ob := (.tup [.agg [.int .i64 r.1, .int .i64 r.2.1, .int .i64 r.2.2.1], .int .i64 r.2.2.2], [])
def ref03_Find_sp (F : ref03_Find_X → Option ref03_Find_R) : Go.Tx.Spec := ⟨18, ref03_Find_ps, ref03_Find_R, F, ref03_Find_enc⟩
def ref03_Find_if (x : ref03_Find_X) : Bool := true
def F_ref03_Find (d : Nat) (x : ref03_Find_X) : Option ref03_Find_R := bif ref03_Find_if x then some ((fieldFind (ptsL x.1.1) x.2.1.1).1.id, (fieldFind (ptsL x.1.1) x.2.1.1).1.a, (fieldFind (ptsL x.1.1) x.2.1.1).1.b, (fieldFind (ptsL x.1.1) x.2.1.1).2) else none
theorem F_ref03_Find_eq (d : Nat) (x : ref03_Find_X) (h : ref03_Find_if x = true) : F_ref03_Find d x = some ((fieldFind (ptsL x.1.1) x.2.1.1).1.id, (fieldFind (ptsL x.1.1) x.2.1.1).1.a, (fieldFind (ptsL x.1.1) x.2.1.1).1.b, (fieldFind (ptsL x.1.1) x.2.1.1).2) := by unfold F_ref03_Find; rw [h]; rfl
theorem ref03_Find_cok (d : Nat) : COK prog (ref03_Find_sp (F_ref03_Find d)) := by
  refine cok_old (body_of (fn := f18) (by kernel_rfl) (by kernel_rfl) (by kernel_rfl)) fun x r hx w φ vs hφ hv => ?_
  have hx : F_ref03_Find d x = some r := hx
  unfold F_ref03_Find at hx
  obtain ⟨hc, rfl⟩ := bif_some hx
  have hv : VRs (Emb.fro φ) [.agg [.fz RP x.1.1], .int .i64 x.2.1.1] vs := hv
  obtain ⟨v0, vs, rfl, q0, hv⟩ := VRs.uncons hv
  obtain ⟨v1, rfl, q1⟩ := vrs1 hv
  obtain ⟨A0, c0, rfl, s0, z0⟩ := vr_fld hφ q0
  have r1 := vr_int q1; subst r1
  refine (refFind_any A0 c0 (ptsL x.1.1) x.2.1.1 w s0).mono ?_
  rintro e w' ⟨rfl, y, rfl⟩
  exact gives_pure hφ (VR.tupL (VRs.cons (VR.aggL (VRs.cons (.int _ _) (VRs.cons (.int _ _) (VRs.cons (.int _ _) VRs.nil)))) (VRs.cons (.int _ _) VRs.nil))) y
abbrev field_Take_ps : List Pk := [.row RLiiiE true, .row Ri false]
abbrev field_Take_X : Type := DLiiiE × Di × Unit
abbrev field_Take_R : Type := List Diii × Int
def field_Take_enc (r : field_Take_R) : LV × List Ob := (.tup [.agg [.rs 0], .int .i64 r.2], [.rows Riii r.1])
def field_Take_sp (F : field_Take_X → Option field_Take_R) : Go.Tx.Spec := ⟨21, field_Take_ps, field_Take_R, F, field_Take_enc⟩
def field_Take_if (x : field_Take_X) : Bool := true
def F_field_Take (d : Nat) (x : field_Take_X) : Option field_Take_R := bif field_Take_if x then some (toPs (fieldTake (ptsL x.1.1) x.2.1.1).1, (fieldTake (ptsL x.1.1) x.2.1.1).2) else none
theorem F_field_Take_eq (d : Nat) (x : field_Take_X) (h : field_Take_if x = true) : F_field_Take d x = some (toPs (fieldTake (ptsL x.1.1) x.2.1.1).1, (fieldTake (ptsL x.1.1) x.2.1.1).2) := by unfold F_field_Take; rw [h]; rfl
theorem field_Take_cok (d : Nat) : COK prog (field_Take_sp (F_field_Take d)) := by
  refine cok_old (body_of (fn := f21) (by kernel_rfl) (by kernel_rfl) (by kernel_rfl)) fun x r hx w φ vs hφ hv => ?_
  have hx : F_field_Take d x = some r := hx
  unfold F_field_Take at hx
  obtain ⟨hc, rfl⟩ := bif_some hx
  have hv : VRs (Emb.fro φ) [.agg [.fz RP x.1.1], .int .i64 x.2.1.1] vs := hv
  obtain ⟨v0, vs, rfl, q0, hv⟩ := VRs.uncons hv
  obtain ⟨v1, rfl, q1⟩ := vrs1 hv
  obtain ⟨A0, c0, rfl, s0, z0⟩ := vr_fld hφ q0
  have r1 := vr_int q1; subst r1
  refine (fieldTake_any A0 c0 (ptsL x.1.1) x.2.1.1 w s0 z0).mono ?_
  rintro e w' ⟨A', c', rfl, y, rfl, ho⟩
  exact gives_own hφ (τ := Riii) rfl (toPs_len _) ho (valsL_toP _) fun η e0 => VR.tupL (VRs.cons (VR.aggL (VRs.cons (.rs e0) VRs.nil)) (VRs.cons (.int _ _) VRs.nil))
abbrev ref03_Take_ps : List Pk := [.row RLiiiE true, .row Ri false]
abbrev ref03_Take_X : Type := DLiiiE × Di × Unit
abbrev ref03_Take_R : Type := List Diii × Int
def ref03_Take_enc (r : ref03_Take_R) : LV × List Ob := (.tup [.agg [.rs 0], .int .i64 r.2], [.rows Riii r.1])
def ref03_Take_sp (F : ref03_Take_X → Option ref03_Take_R) : Go.Tx.Spec := ⟨22, ref03_Take_ps, ref03_Take_R, F, ref03_Take_enc⟩
def ref03_Take_if (x : ref03_Take_X) : Bool := true
def F_ref03_Take (d : Nat) (x : ref03_Take_X) : Option ref03_Take_R := bif ref03_Take_if x then some (toPs (fieldTake (ptsL x.1.1) x.2.1.1).1, (fieldTake (ptsL x.1.1) x.2.1.1).2) else none
theorem F_ref03_Take_eq (d : Nat) (x : ref03_Take_X) (h : ref03_Take_if x = true) : F_ref03_Take d x = some (toPs (fieldTake (ptsL x.1.1) x.2.1.1).1, (fieldTake (ptsL x.1.1) x.2.1.1).2) := by unfold F_ref03_Take; rw [h]; rfl
theorem ref03_Take_cok (d : Nat) : COK prog (ref03_Take_sp (F_ref03_Take d)) := by
  refine cok_old (body_of (fn := f22) (by kernel_rfl) (by kernel_rfl) (by kernel_rfl)) fun x r hx w φ vs hφ hv => ?_
  have hx : F_ref03_Take d x = some r := hx
  unfold F_ref03_Take at hx
  obtain ⟨hc, rfl⟩ := bif_some hx
  have hv : VRs (Emb.fro φ) [.agg [.fz RP x.1.1], .int .i64 x.2.1.1] vs := hv
  obtain ⟨v0, vs, rfl, q0, hv⟩ := VRs.uncons hv
  obtain ⟨v1, rfl, q1⟩ := vrs1 hv
  obtain ⟨A0, c0, rfl, s0, z0⟩ := vr_fld hφ q0
  have r1 := vr_int q1; subst r1
  refine (refTake_any A0 c0 (ptsL x.1.1) x.2.1.1 w s0).mono ?_
  rintro e w' ⟨A', c', rfl, y, rfl, ho⟩
  exact gives_own hφ (τ := Riii) rfl (toPs_len _) ho (valsL_toP _) fun η e0 => VR.tupL (VRs.cons (VR.aggL (VRs.cons (.rs e0) VRs.nil)) (VRs.cons (.int _ _) VRs.nil))
abbrev field_Put_ps : List Pk := [.row RLiiiE true, .row Riii true]
abbrev field_Put_X : Type := DLiiiE × Diii × Unit
abbrev field_Put_R : Type := List Diii × Int
def field_Put_enc (r : field_Put_R) : LV × List Ob := (.tup [.agg [.rs 0], .int .i64 r.2], [.rows Riii r.1])
def field_Put_sp (F : field_Put_X → Option field_Put_R) : Go.Tx.Spec := ⟨19, field_Put_ps, field_Put_R, F, field_Put_enc⟩
def field_Put_if (x : field_Put_X) : Bool := true
def F_field_Put (d : Nat) (x : field_Put_X) : Option field_Put_R := bif field_Put_if x then some (toPs (fieldPut (ptsL x.1.1) (ofP x.2.1)).1, (fieldPut (ptsL x.1.1) (ofP x.2.1)).2) else none
theorem F_field_Put_eq (d : Nat) (x : field_Put_X) (h : field_Put_if x = true) : F_field_Put d x = some (toPs (fieldPut (ptsL x.1.1) (ofP x.2.1)).1, (fieldPut (ptsL x.1.1) (ofP x.2.1)).2) := by unfold F_field_Put; rw [h]; rfl
theorem field_Put_cok (d : Nat) : COK prog (field_Put_sp (F_field_Put d)) := by
  refine cok_old (body_of (fn := f19) (by kernel_rfl) (by kernel_rfl) (by kernel_rfl)) fun x r hx w φ vs hφ hv => ?_
  have hx : F_field_Put d x = some r := hx
  unfold F_field_Put at hx
  obtain ⟨hc, rfl⟩ := bif_some hx
  have hv : VRs (Emb.fro φ) [.agg [.fz RP x.1.1], .agg [.int .i64 x.2.1.1, .int .i64 x.2.1.2.1, .int .i64 x.2.1.2.2.1]] vs := hv
  obtain ⟨v0, vs, rfl, q0, hv⟩ := VRs.uncons hv
  obtain ⟨v1, rfl, q1⟩ := vrs1 hv
  obtain ⟨A0, c0, rfl, s0, z0⟩ := vr_fld hφ q0
  have r1 := vr_point (p := x.2.1) q1; subst r1
  refine (fieldPut_any A0 c0 (ptsL x.1.1) (ofP x.2.1) w s0 z0).mono ?_
  rintro e w' ⟨A', c', rfl, y, rfl, ho⟩
  exact gives_own hφ (τ := Riii) rfl (toPs_len _) ho (valsL_toP _) fun η e0 => VR.tupL (VRs.cons (VR.aggL (VRs.cons (.rs e0) VRs.nil)) (VRs.cons (.int _ _) VRs.nil))
abbrev ref03_Put_ps : List Pk := [.row RLiiiE true, .row Riii true]
abbrev ref03_Put_X : Type := DLiiiE × Diii × Unit
abbrev ref03_Put_R : Type := List Diii × Int
def ref03_Put_enc (r : ref03_Put_R) : LV × List Ob := (.tup [.agg [.rs 0], .int .i64 r.2], [.rows Riii r.1])
def ref03_Put_sp (F : ref03_Put_X → Option ref03_Put_R) : Go.Tx.Spec := ⟨20, ref03_Put_ps, ref03_Put_R, F, ref03_Put_enc⟩
def ref03_Put_if (x : ref03_Put_X) : Bool := true
def F_ref03_Put (d : Nat) (x : ref03_Put_X) : Option ref03_Put_R := bif ref03_Put_if x then some (toPs (fieldPut (ptsL x.1.1) (ofP x.2.1)).1, (fieldPut (ptsL x.1.1) (ofP x.2.1)).2) else none
theorem F_ref03_Put_eq (d : Nat) (x : ref03_Put_X) (h : ref03_Put_if x = true) : F_ref03_Put d x = some (toPs (fieldPut (ptsL x.1.1) (ofP x.2.1)).1, (fieldPut (ptsL x.1.1) (ofP x.2.1)).2) := by unfold F_ref03_Put; rw [h]; rfl
theorem ref03_Put_cok (d : Nat) : COK prog (ref03_Put_sp (F_ref03_Put d)) := by
  refine cok_old (body_of (fn := f20) (by kernel_rfl) (by kernel_rfl) (by kernel_rfl)) fun x r hx w φ vs hφ hv => ?_
  have hx : F_ref03_Put d x = some r := hx
  unfold F_ref03_Put at hx
  obtain ⟨hc, rfl⟩ := bif_some hx
  have hv : VRs (Emb.fro φ) [.agg [.fz RP x.1.1], .agg [.int .i64 x.2.1.1, .int .i64 x.2.1.2.1, .int .i64 x.2.1.2.2.1]] vs := hv
  obtain ⟨v0, vs, rfl, q0, hv⟩ := VRs.uncons hv
  obtain ⟨v1, rfl, q1⟩ := vrs1 hv
  obtain ⟨A0, c0, rfl, s0, z0⟩ := vr_fld hφ q0
  have r1 := vr_point (p := x.2.1) q1; subst r1
  refine (refPut_any A0 c0 (ptsL x.1.1) (ofP x.2.1) w s0).mono ?_
  rintro e w' ⟨A', c', rfl, y, rfl, ho⟩
  exact gives_own hφ (τ := Riii) rfl (toPs_len _) ho (valsL_toP _) fun η e0 => VR.tupL (VRs.cons (VR.aggL (VRs.cons (.rs e0) VRs.nil)) (VRs.cons (.int _ _) VRs.nil))
abbrev field_Change_ps : List Pk := [.row RLiiiE true, .row Riii true]
abbrev field_Change_X : Type := DLiiiE × Diii × Unit
abbrev field_Change_R : Type := List Diii × Int
def field_Change_enc (r : field_Change_R) : LV × List Ob := (.tup [.agg [.rs 0], .int .i64 r.2], [.rows Riii r.1])
def field_Change_sp (F : field_Change_X → Option field_Change_R) : Go.Tx.Spec := ⟨23, field_Change_ps, field_Change_R, F, field_Change_enc⟩
def field_Change_if (x : field_Change_X) : Bool := true
def F_field_Change (d : Nat) (x : field_Change_X) : Option field_Change_R := bif field_Change_if x then some (toPs (fieldChange (ptsL x.1.1) (ofP x.2.1)).1, (fieldChange (ptsL x.1.1) (ofP x.2.1)).2) else none
theorem F_field_Change_eq (d : Nat) (x : field_Change_X) (h : field_Change_if x = true) : F_field_Change d x = some (toPs (fieldChange (ptsL x.1.1) (ofP x.2.1)).1, (fieldChange (ptsL x.1.1) (ofP x.2.1)).2) := by unfold F_field_Change; rw [h]; rfl
theorem field_Change_cok (d : Nat) : COK prog (field_Change_sp (F_field_Change d)) := by
  refine cok_old (body_of (fn := f23) (by kernel_rfl) (by kernel_rfl) (by kernel_rfl)) fun x r hx w φ vs hφ hv => ?_
  have hx : F_field_Change d x = some r := hx
  unfold F_field_Change at hx
  obtain ⟨hc, rfl⟩ := bif_some hx
  have hv : VRs (Emb.fro φ) [.agg [.fz RP x.1.1], .agg [.int .i64 x.2.1.1, .int .i64 x.2.1.2.1, .int .i64 x.2.1.2.2.1]] vs := hv
  obtain ⟨v0, vs, rfl, q0, hv⟩ := VRs.uncons hv
  obtain ⟨v1, rfl, q1⟩ := vrs1 hv
  obtain ⟨A0, c0, rfl, s0, z0⟩ := vr_fld hφ q0
  have r1 := vr_point (p := x.2.1) q1; subst r1
  refine (fieldChange_any A0 c0 (ptsL x.1.1) (ofP x.2.1) w s0 z0).mono ?_
  rintro e w' ⟨A', c', rfl, y, rfl, ho⟩
  exact gives_own hφ (τ := Riii) rfl (toPs_len _) ho (valsL_toP _) fun η e0 => VR.tupL (VRs.cons (VR.aggL (VRs.cons (.rs e0) VRs.nil)) (VRs.cons (.int _ _) VRs.nil))
abbrev ref03_Change_ps : List Pk := [.row RLiiiE true, .row Riii true]
abbrev ref03_Change_X : Type := DLiiiE × Diii × Unit
abbrev ref03_Change_R : Type := List Diii × Int
def ref03_Change_enc (r : ref03_Change_R) : LV × List Ob := (.tup [.agg [.rs 0], .int .i64 r.2], [.rows Riii r.1])
def ref03_Change_sp (F : ref03_Change_X → Option ref03_Change_R) : Go.Tx.Spec := ⟨24, ref03_Change_ps, ref03_Change_R, F, ref03_Change_enc⟩
def ref03_Change_if (x : ref03_Change_X) : Bool := true
def F_ref03_Change (d : Nat) (x : ref03_Change_X) : Option ref03_Change_R := bif ref03_Change_if x then some (toPs (fieldChange (ptsL x.1.1) (ofP x.2.1)).1, (fieldChange (ptsL x.1.1) (ofP x.2.1)).2) else none
theorem F_ref03_Change_eq (d : Nat) (x : ref03_Change_X) (h : ref03_Change_if x = true) : F_ref03_Change d x = some (toPs (fieldChange (ptsL x.1.1) (ofP x.2.1)).1, (fieldChange (ptsL x.1.1) (ofP x.2.1)).2) := by unfold F_ref03_Change; rw [h]; rfl
theorem ref03_Change_cok (d : Nat) : COK prog (ref03_Change_sp (F_ref03_Change d)) := by
  refine cok_old (body_of (fn := f24) (by kernel_rfl) (by kernel_rfl) (by kernel_rfl)) fun x r hx w φ vs hφ hv => ?_
  have hx : F_ref03_Change d x = some r := hx
  unfold F_ref03_Change at hx
  obtain ⟨hc, rfl⟩ := bif_some hx
  have hv : VRs (Emb.fro φ) [.agg [.fz RP x.1.1], .agg [.int .i64 x.2.1.1, .int .i64 x.2.1.2.1, .int .i64 x.2.1.2.2.1]] vs := hv
  obtain ⟨v0, vs, rfl, q0, hv⟩ := VRs.uncons hv
  obtain ⟨v1, rfl, q1⟩ := vrs1 hv
  obtain ⟨A0, c0, rfl, s0, z0⟩ := vr_fld hφ q0
  have r1 := vr_point (p := x.2.1) q1; subst r1
  refine (refChange_any A0 c0 (ptsL x.1.1) (ofP x.2.1) w s0 z0).mono ?_
  rintro e w' ⟨A', c', rfl, y, rfl, ho⟩
  exact gives_own hφ (τ := Riii) rfl (toPs_len _) ho (valsL_toP _) fun η e0 => VR.tupL (VRs.cons (VR.aggL (VRs.cons (.rs e0) VRs.nil)) (VRs.cons (.int _ _) VRs.nil))
abbrev ref03_Without_ps : List Pk := [.row RLiiiE true, .row Ri false]
abbrev ref03_Without_X : Type := DLiiiE × Di × Unit
abbrev ref03_Without_R : Type := List Diii
def ref03_Without_enc (r : ref03_Without_R) : LV × List Ob := (.agg [.rs 0], [.rows Riii r])
def ref03_Without_sp (F : ref03_Without_X → Option ref03_Without_R) : Go.Tx.Spec := ⟨72, ref03_Without_ps, ref03_Without_R, F, ref03_Without_enc⟩
def ref03_Without_if (x : ref03_Without_X) : Bool := decide ((ptsL x.1.1).length ≤ 1000000)
def F_ref03_Without (d : Nat) (x : ref03_Without_X) : Option ref03_Without_R := bif ref03_Without_if x then some (toPs (woB (ptsL x.1.1) x.2.1.1)) else none
theorem F_ref03_Without_eq (d : Nat) (x : ref03_Without_X) (h : ref03_Without_if x = true) : F_ref03_Without d x = some (toPs (woB (ptsL x.1.1) x.2.1.1)) := by unfold F_ref03_Without; rw [h]; rfl
theorem ref03_Without_cok (d : Nat) : COK prog (ref03_Without_sp (F_ref03_Without d)) := by
  refine cok_old (body_of (fn := f72) (by kernel_rfl) (by kernel_rfl) (by kernel_rfl)) fun x r hx w φ vs hφ hv => ?_
  have hx : F_ref03_Without d x = some r := hx
  unfold F_ref03_Without at hx
  obtain ⟨hc, rfl⟩ := bif_some hx
  have hv : VRs (Emb.fro φ) [.agg [.fz RP x.1.1], .int .i64 x.2.1.1] vs := hv
  obtain ⟨v0, vs, rfl, q0, hv⟩ := VRs.uncons hv
  obtain ⟨v1, rfl, q1⟩ := vrs1 hv
  obtain ⟨A0, c0, rfl, s0, z0⟩ := vr_fld hφ q0
  have r1 := vr_int q1; subst r1
  unfold ref03_Without_if at hc
  have h1 := hc
  replace h1 := of_decide_eq_true h1
  refine (without_any A0 c0 (ptsL x.1.1) x.2.1.1 w s0 h1).mono ?_
  rintro e w' ⟨A', c', rfl, y, rfl, ho⟩
  exact gives_own hφ (τ := Riii) rfl (toPs_len _) ho (valsL_toP _) fun η e0 => VR.aggL (VRs.cons (.rs e0) VRs.nil)
abbrev slices_Clone_api_Point_api_Point_ps : List Pk := [.row RLiiiE false]
abbrev slices_Clone_api_Point_api_Point_X : Type := DLiiiE × Unit
abbrev slices_Clone_api_Point_api_Point_R : Type := List Diii
def slices_Clone_api_Point_api_Point_enc (r : slices_Clone_api_Point_api_Point_R) : LV × List Ob := (.rs 0, [.rows Riii r])
def slices_Clone_api_Point_api_Point_sp (F : slices_Clone_api_Point_api_Point_X → Option slices_Clone_api_Point_api_Point_R) : Go.Tx.Spec := ⟨70, slices_Clone_api_Point_api_Point_ps, slices_Clone_api_Point_api_Point_R, F, slices_Clone_api_Point_api_Point_enc⟩
def slices_Clone_api_Point_api_Point_if (x : slices_Clone_api_Point_api_Point_X) : Bool := decide ((ptsL x.1.1).length ≤ 1000000)
def F_slices_Clone_api_Point_api_Point (d : Nat) (x : slices_Clone_api_Point_api_Point_X) : Option slices_Clone_api_Point_api_Point_R := bif slices_Clone_api_Point_api_Point_if x then some (toPs (ptsL x.1.1)) else none
theorem F_slices_Clone_api_Point_api_Point_eq (d : Nat) (x : slices_Clone_api_Point_api_Point_X) (h : slices_Clone_api_Point_api_Point_if x = true) : F_slices_Clone_api_Point_api_Point d x = some (toPs (ptsL x.1.1)) := by unfold F_slices_Clone_api_Point_api_Point; rw [h]; rfl
theorem slices_Clone_api_Point_api_Point_cok (d : Nat) : COK prog (slices_Clone_api_Point_api_Point_sp (F_slices_Clone_api_Point_api_Point d)) := by
  refine cok_old (body_of (fn := f70) (by kernel_rfl) (by kernel_rfl) (by kernel_rfl)) fun x r hx w φ vs hφ hv => ?_
  have hx : F_slices_Clone_api_Point_api_Point d x = some r := hx
  unfold F_slices_Clone_api_Point_api_Point at hx
  obtain ⟨hc, rfl⟩ := bif_some hx
  have hv : VRs (Emb.fro φ) [.fz RP x.1.1] vs := hv
  obtain ⟨v0, rfl, q0⟩ := vrs1 hv
  obtain ⟨A0, c0, rfl, s0, z0⟩ := vr_pts hφ q0
  unfold slices_Clone_api_Point_api_Point_if at hc
  have h1 := hc
  replace h1 := of_decide_eq_true h1
  refine (clone_any A0 c0 (ptsL x.1.1) w s0 z0 h1).mono ?_
  rintro e w' ⟨A', c', rfl, y, rfl, ho⟩
  exact gives_own hφ (τ := Riii) rfl (toPs_len _) ho (valsL_toP _) fun η e0 => (.rs e0)
abbrev slices_Clone_int_int_ps : List Pk := [.row RLiE false]
abbrev slices_Clone_int_int_X : Type := DLiE × Unit
abbrev slices_Clone_int_int_R : Type := List Di
def slices_Clone_int_int_enc (r : slices_Clone_int_int_R) : LV × List Ob := (.rs 0, [.rows Ri r])
def slices_Clone_int_int_sp (F : slices_Clone_int_int_X → Option slices_Clone_int_int_R) : Go.Tx.Spec := ⟨75, slices_Clone_int_int_ps, slices_Clone_int_int_R, F, slices_Clone_int_int_enc⟩
def slices_Clone_int_int_if (x : slices_Clone_int_int_X) : Bool := decide ((idsI x.1.1).length ≤ 1000000)
def F_slices_Clone_int_int (d : Nat) (x : slices_Clone_int_int_X) : Option slices_Clone_int_int_R := bif slices_Clone_int_int_if x then some (unI (idsI x.1.1)) else none
theorem F_slices_Clone_int_int_eq (d : Nat) (x : slices_Clone_int_int_X) (h : slices_Clone_int_int_if x = true) : F_slices_Clone_int_int d x = some (unI (idsI x.1.1)) := by unfold F_slices_Clone_int_int; rw [h]; rfl
theorem slices_Clone_int_int_cok (d : Nat) : COK prog (slices_Clone_int_int_sp (F_slices_Clone_int_int d)) := by
  refine cok_old (body_of (fn := f75) (by kernel_rfl) (by kernel_rfl) (by kernel_rfl)) fun x r hx w φ vs hφ hv => ?_
  have hx : F_slices_Clone_int_int d x = some r := hx
  unfold F_slices_Clone_int_int at hx
  obtain ⟨hc, rfl⟩ := bif_some hx
  have hv : VRs (Emb.fro φ) [.fz RI x.1.1] vs := hv
  obtain ⟨v0, rfl, q0⟩ := vrs1 hv
  obtain ⟨A0, c0, rfl, s0, z0⟩ := vr_idsI hφ q0
  unfold slices_Clone_int_int_if at hc
  have h1 := hc
  replace h1 := of_decide_eq_true h1
  refine (cloneI_any A0 c0 (idsI x.1.1) w s0 z0 h1).mono ?_
  rintro e w' ⟨A', c', rfl, y, rfl, ho⟩
  exact gives_own hφ (τ := Ri) rfl (unI_len _) ho (valsL_unI _) fun η e0 => (.rs e0)
abbrev ref03_Timed_ps : List Pk := [.row RLiiiE true, .row Rii true]
abbrev ref03_Timed_X : Type := DLiiiE × Dii × Unit
abbrev ref03_Timed_R : Type := Int
def ref03_Timed_enc (r : ref03_Timed_R) : LV × List Ob := (.int .i64 r, [])
def ref03_Timed_sp (F : ref03_Timed_X → Option ref03_Timed_R) : Go.Tx.Spec := ⟨45, ref03_Timed_ps, ref03_Timed_R, F, ref03_Timed_enc⟩
def ref03_Timed_if (x : ref03_Timed_X) : Bool := i64B x.2.1.1 && i64B x.2.1.2.1 && decide ((ptsL x.1.1).length ≤ 1000000)
def F_ref03_Timed (d : Nat) (x : ref03_Timed_X) : Option ref03_Timed_R := bif ref03_Timed_if x then some (timed (ptsL x.1.1) x.2.1.1 x.2.1.2.1) else none
theorem F_ref03_Timed_eq (d : Nat) (x : ref03_Timed_X) (h : ref03_Timed_if x = true) : F_ref03_Timed d x = some (timed (ptsL x.1.1) x.2.1.1 x.2.1.2.1) := by unfold F_ref03_Timed; rw [h]; rfl
theorem ref03_Timed_cok (d : Nat) : COK prog (ref03_Timed_sp (F_ref03_Timed d)) := by
  refine cok_old (body_of (fn := f45) (by kernel_rfl) (by kernel_rfl) (by kernel_rfl)) fun x r hx w φ vs hφ hv => ?_
  have hx : F_ref03_Timed d x = some r := hx
  unfold F_ref03_Timed at hx
  obtain ⟨hc, rfl⟩ := bif_some hx
  have hv : VRs (Emb.fro φ) [.agg [.fz RP x.1.1], .agg [.int .i64 x.2.1.1, .int .i64 x.2.1.2.1]] vs := hv
  obtain ⟨v0, vs, rfl, q0, hv⟩ := VRs.uncons hv
  obtain ⟨v1, rfl, q1⟩ := vrs1 hv
  obtain ⟨A0, c0, rfl, s0, z0⟩ := vr_fld hφ q0
  have r1 := vr_ratio q1; subst r1
  unfold ref03_Timed_if at hc
  simp only [Bool.and_eq_true] at hc
  obtain ⟨⟨h1, h2⟩, h3⟩ := hc
  replace h3 := of_decide_eq_true h3
  refine (timed_any A0 c0 (ptsL x.1.1) x.2.1.1 x.2.1.2.1 w (i64B_iff h1) (i64B_iff h2) s0 h3).mono ?_
  rintro e w' ⟨rfl, y, rfl⟩
  exact gives_pure hφ (.int _ _) y
abbrev field_Leader_ps : List Pk := [.row RLiiiE true, .row Rii true]
abbrev field_Leader_X : Type := DLiiiE × Dii × Unit
abbrev field_Leader_R : Type := Int × Int
def field_Leader_enc (r : field_Leader_R) : LV × List Ob := (.tup [.int .i64 r.1, .int .i64 r.2], [])
def field_Leader_sp (F : field_Leader_X → Option field_Leader_R) : Go.Tx.Spec := ⟨50, field_Leader_ps, field_Leader_R, F, field_Leader_enc⟩
def field_Leader_if (x : field_Leader_X) : Bool := i64B x.2.1.1 && i64B x.2.1.2.1
def F_field_Leader (d : Nat) (x : field_Leader_X) : Option field_Leader_R := bif field_Leader_if x then some ((fieldLeader (ptsL x.1.1) x.2.1.1 x.2.1.2.1).1, (fieldLeader (ptsL x.1.1) x.2.1.1 x.2.1.2.1).2) else none
theorem F_field_Leader_eq (d : Nat) (x : field_Leader_X) (h : field_Leader_if x = true) : F_field_Leader d x = some ((fieldLeader (ptsL x.1.1) x.2.1.1 x.2.1.2.1).1, (fieldLeader (ptsL x.1.1) x.2.1.1 x.2.1.2.1).2) := by unfold F_field_Leader; rw [h]; rfl
theorem field_Leader_cok (d : Nat) : COK prog (field_Leader_sp (F_field_Leader d)) := by
  refine cok_old (body_of (fn := f50) (by kernel_rfl) (by kernel_rfl) (by kernel_rfl)) fun x r hx w φ vs hφ hv => ?_
  have hx : F_field_Leader d x = some r := hx
  unfold F_field_Leader at hx
  obtain ⟨hc, rfl⟩ := bif_some hx
  have hv : VRs (Emb.fro φ) [.agg [.fz RP x.1.1], .agg [.int .i64 x.2.1.1, .int .i64 x.2.1.2.1]] vs := hv
  obtain ⟨v0, vs, rfl, q0, hv⟩ := VRs.uncons hv
  obtain ⟨v1, rfl, q1⟩ := vrs1 hv
  obtain ⟨A0, c0, rfl, s0, z0⟩ := vr_fld hφ q0
  have r1 := vr_ratio q1; subst r1
  unfold field_Leader_if at hc
  simp only [Bool.and_eq_true] at hc
  obtain ⟨h1, h2⟩ := hc
  refine (leader_any A0 c0 (ptsL x.1.1) x.2.1.1 x.2.1.2.1 w (i64B_iff h1) (i64B_iff h2) s0 z0).mono ?_
  rintro e w' ⟨rfl, y, rfl⟩
  exact gives_pure hφ (VR.tupL (VRs.cons (.int _ _) (VRs.cons (.int _ _) VRs.nil))) y
abbrev ref03_Leader_ps : List Pk := [.row RLiiiE true, .row Rii true]
abbrev ref03_Leader_X : Type := DLiiiE × Dii × Unit
abbrev ref03_Leader_R : Type := Int × Int
def ref03_Leader_enc (r : ref03_Leader_R) : LV × List Ob := (.tup [.int .i64 r.1, .int .i64 r.2], [])
def ref03_Leader_sp (F : ref03_Leader_X → Option ref03_Leader_R) : Go.Tx.Spec := ⟨51, ref03_Leader_ps, ref03_Leader_R, F, ref03_Leader_enc⟩
def ref03_Leader_if (x : ref03_Leader_X) : Bool := i64B x.2.1.1 && i64B x.2.1.2.1 && decide ((ptsL x.1.1).length ≤ 1000000)
def F_ref03_Leader (d : Nat) (x : ref03_Leader_X) : Option ref03_Leader_R := bif ref03_Leader_if x then some ((fieldLeader (ptsL x.1.1) x.2.1.1 x.2.1.2.1).1, (fieldLeader (ptsL x.1.1) x.2.1.1 x.2.1.2.1).2) else none
theorem F_ref03_Leader_eq (d : Nat) (x : ref03_Leader_X) (h : ref03_Leader_if x = true) : F_ref03_Leader d x = some ((fieldLeader (ptsL x.1.1) x.2.1.1 x.2.1.2.1).1, (fieldLeader (ptsL x.1.1) x.2.1.1 x.2.1.2.1).2) := by unfold F_ref03_Leader; rw [h]; rfl
theorem ref03_Leader_cok (d : Nat) : COK prog (ref03_Leader_sp (F_ref03_Leader d)) := by
  refine cok_old (body_of (fn := f51) (by kernel_rfl) (by kernel_rfl) (by kernel_rfl)) fun x r hx w φ vs hφ hv => ?_
  have hx : F_ref03_Leader d x = some r := hx
  unfold F_ref03_Leader at hx
  obtain ⟨hc, rfl⟩ := bif_some hx
  have hv : VRs (Emb.fro φ) [.agg [.fz RP x.1.1], .agg [.int .i64 x.2.1.1, .int .i64 x.2.1.2.1]] vs := hv
  obtain ⟨v0, vs, rfl, q0, hv⟩ := VRs.uncons hv
  obtain ⟨v1, rfl, q1⟩ := vrs1 hv
  obtain ⟨A0, c0, rfl, s0, z0⟩ := vr_fld hφ q0
  have r1 := vr_ratio q1; subst r1
  unfold ref03_Leader_if at hc
  simp only [Bool.and_eq_true] at hc
  obtain ⟨⟨h1, h2⟩, h3⟩ := hc
  replace h3 := of_decide_eq_true h3
  refine (refLeader_any A0 c0 (ptsL x.1.1) x.2.1.1 x.2.1.2.1 w (i64B_iff h1) (i64B_iff h2) s0 h3).mono ?_
  rintro e w' ⟨rfl, y, rfl⟩
  exact gives_pure hφ (VR.tupL (VRs.cons (.int _ _) (VRs.cons (.int _ _) VRs.nil))) y
abbrev field_Order_ps : List Pk := [.row RLiiiE true, .row Rii true]
abbrev field_Order_X : Type := DLiiiE × Dii × Unit
abbrev field_Order_R : Type := List Di × Int
def field_Order_enc (r : field_Order_R) : LV × List Ob := (.tup [.rs 0, .int .i64 r.2], [.rows Ri r.1])
def field_Order_sp (F : field_Order_X → Option field_Order_R) : Go.Tx.Spec := ⟨52, field_Order_ps, field_Order_R, F, field_Order_enc⟩
def field_Order_if (x : field_Order_X) : Bool := i64B x.2.1.1 && i64B x.2.1.2.1 && decide ((ptsL x.1.1).length ≤ 1000000)
def F_field_Order (d : Nat) (x : field_Order_X) : Option field_Order_R := bif field_Order_if x then some (unI (fieldOrder (ptsL x.1.1) x.2.1.1 x.2.1.2.1).1, (fieldOrder (ptsL x.1.1) x.2.1.1 x.2.1.2.1).2) else none
theorem F_field_Order_eq (d : Nat) (x : field_Order_X) (h : field_Order_if x = true) : F_field_Order d x = some (unI (fieldOrder (ptsL x.1.1) x.2.1.1 x.2.1.2.1).1, (fieldOrder (ptsL x.1.1) x.2.1.1 x.2.1.2.1).2) := by unfold F_field_Order; rw [h]; rfl
theorem field_Order_cok (d : Nat) : COK prog (field_Order_sp (F_field_Order d)) := by
  refine cok_old (body_of (fn := f52) (by kernel_rfl) (by kernel_rfl) (by kernel_rfl)) fun x r hx w φ vs hφ hv => ?_
  have hx : F_field_Order d x = some r := hx
  unfold F_field_Order at hx
  obtain ⟨hc, rfl⟩ := bif_some hx
  have hv : VRs (Emb.fro φ) [.agg [.fz RP x.1.1], .agg [.int .i64 x.2.1.1, .int .i64 x.2.1.2.1]] vs := hv
  obtain ⟨v0, vs, rfl, q0, hv⟩ := VRs.uncons hv
  obtain ⟨v1, rfl, q1⟩ := vrs1 hv
  obtain ⟨A0, c0, rfl, s0, z0⟩ := vr_fld hφ q0
  have r1 := vr_ratio q1; subst r1
  unfold field_Order_if at hc
  simp only [Bool.and_eq_true] at hc
  obtain ⟨⟨h1, h2⟩, h3⟩ := hc
  replace h3 := of_decide_eq_true h3
  refine (order_any A0 c0 (ptsL x.1.1) x.2.1.1 x.2.1.2.1 w (i64B_iff h1) (i64B_iff h2) s0 z0 h3).mono ?_
  rintro e w' ⟨A', c', rfl, y, rfl, ho⟩
  exact gives_own hφ (τ := Ri) rfl (unI_len _) ho (valsL_unI _) fun η e0 => VR.tupL (VRs.cons (.rs e0) (VRs.cons (.int _ _) VRs.nil))
abbrev ref03_Order_ps : List Pk := [.row RLiiiE true, .row Rii true]
abbrev ref03_Order_X : Type := DLiiiE × Dii × Unit
abbrev ref03_Order_R : Type := List Di × Int
def ref03_Order_enc (r : ref03_Order_R) : LV × List Ob := (.tup [.rs 0, .int .i64 r.2], [.rows Ri r.1])
def ref03_Order_sp (F : ref03_Order_X → Option ref03_Order_R) : Go.Tx.Spec := ⟨53, ref03_Order_ps, ref03_Order_R, F, ref03_Order_enc⟩
def ref03_Order_if (x : ref03_Order_X) : Bool := i64B x.2.1.1 && i64B x.2.1.2.1 && decide ((ptsL x.1.1).length ≤ 1000000)
def F_ref03_Order (d : Nat) (x : ref03_Order_X) : Option ref03_Order_R := bif ref03_Order_if x then some (unI (fieldOrder (ptsL x.1.1) x.2.1.1 x.2.1.2.1).1, (fieldOrder (ptsL x.1.1) x.2.1.1 x.2.1.2.1).2) else none
theorem F_ref03_Order_eq (d : Nat) (x : ref03_Order_X) (h : ref03_Order_if x = true) : F_ref03_Order d x = some (unI (fieldOrder (ptsL x.1.1) x.2.1.1 x.2.1.2.1).1, (fieldOrder (ptsL x.1.1) x.2.1.1 x.2.1.2.1).2) := by unfold F_ref03_Order; rw [h]; rfl
theorem ref03_Order_cok (d : Nat) : COK prog (ref03_Order_sp (F_ref03_Order d)) := by
  refine cok_old (body_of (fn := f53) (by kernel_rfl) (by kernel_rfl) (by kernel_rfl)) fun x r hx w φ vs hφ hv => ?_
  have hx : F_ref03_Order d x = some r := hx
  unfold F_ref03_Order at hx
  obtain ⟨hc, rfl⟩ := bif_some hx
  have hv : VRs (Emb.fro φ) [.agg [.fz RP x.1.1], .agg [.int .i64 x.2.1.1, .int .i64 x.2.1.2.1]] vs := hv
  obtain ⟨v0, vs, rfl, q0, hv⟩ := VRs.uncons hv
  obtain ⟨v1, rfl, q1⟩ := vrs1 hv
  obtain ⟨A0, c0, rfl, s0, z0⟩ := vr_fld hφ q0
  have r1 := vr_ratio q1; subst r1
  unfold ref03_Order_if at hc
  simp only [Bool.and_eq_true] at hc
  obtain ⟨⟨h1, h2⟩, h3⟩ := hc
  replace h3 := of_decide_eq_true h3
  refine (refOrder_any A0 c0 (ptsL x.1.1) x.2.1.1 x.2.1.2.1 w (i64B_iff h1) (i64B_iff h2) s0 h3).mono ?_
  rintro e w' ⟨A', c', rfl, y, rfl, ho⟩
  exact gives_own hφ (τ := Ri) rfl (unI_len _) ho (valsL_unI _) fun η e0 => VR.tupL (VRs.cons (.rs e0) (VRs.cons (.int _ _) VRs.nil))
abbrev field_Rank_ps : List Pk := [.row RLiiiE true, .row Ri false, .row Rii true]
abbrev field_Rank_X : Type := DLiiiE × Di × Dii × Unit
abbrev field_Rank_R : Type := Int × Int
def field_Rank_enc (r : field_Rank_R) : LV × List Ob := (.tup [.int .i64 r.1, .int .i64 r.2], [])
def field_Rank_sp (F : field_Rank_X → Option field_Rank_R) : Go.Tx.Spec := ⟨54, field_Rank_ps, field_Rank_R, F, field_Rank_enc⟩
def field_Rank_if (x : field_Rank_X) : Bool := i64B x.2.2.1.1 && i64B x.2.2.1.2.1 && decide ((ptsL x.1.1).length ≤ 1000000)
def F_field_Rank (d : Nat) (x : field_Rank_X) : Option field_Rank_R := bif field_Rank_if x then some ((fieldRank (ptsL x.1.1) x.2.1.1 x.2.2.1.1 x.2.2.1.2.1).1, (fieldRank (ptsL x.1.1) x.2.1.1 x.2.2.1.1 x.2.2.1.2.1).2) else none
theorem F_field_Rank_eq (d : Nat) (x : field_Rank_X) (h : field_Rank_if x = true) : F_field_Rank d x = some ((fieldRank (ptsL x.1.1) x.2.1.1 x.2.2.1.1 x.2.2.1.2.1).1, (fieldRank (ptsL x.1.1) x.2.1.1 x.2.2.1.1 x.2.2.1.2.1).2) := by unfold F_field_Rank; rw [h]; rfl
theorem field_Rank_cok (d : Nat) : COK prog (field_Rank_sp (F_field_Rank d)) := by
  refine cok_old (body_of (fn := f54) (by kernel_rfl) (by kernel_rfl) (by kernel_rfl)) fun x r hx w φ vs hφ hv => ?_
  have hx : F_field_Rank d x = some r := hx
  unfold F_field_Rank at hx
  obtain ⟨hc, rfl⟩ := bif_some hx
  have hv : VRs (Emb.fro φ) [.agg [.fz RP x.1.1], .int .i64 x.2.1.1, .agg [.int .i64 x.2.2.1.1, .int .i64 x.2.2.1.2.1]] vs := hv
  obtain ⟨v0, vs, rfl, q0, hv⟩ := VRs.uncons hv
  obtain ⟨v1, vs, rfl, q1, hv⟩ := VRs.uncons hv
  obtain ⟨v2, rfl, q2⟩ := vrs1 hv
  obtain ⟨A0, c0, rfl, s0, z0⟩ := vr_fld hφ q0
  have r1 := vr_int q1; subst r1
  have r2 := vr_ratio q2; subst r2
  unfold field_Rank_if at hc
  simp only [Bool.and_eq_true] at hc
  obtain ⟨⟨h1, h2⟩, h3⟩ := hc
  replace h3 := of_decide_eq_true h3
  refine (rank_any A0 c0 (ptsL x.1.1) x.2.1.1 x.2.2.1.1 x.2.2.1.2.1 w (i64B_iff h1) (i64B_iff h2) s0 z0 h3).mono ?_
  rintro e w' ⟨rfl, y, rfl⟩
  exact gives_pure hφ (VR.tupL (VRs.cons (.int _ _) (VRs.cons (.int _ _) VRs.nil))) y
abbrev ref03_Rank_ps : List Pk := [.row RLiiiE true, .row Ri false, .row Rii true]
abbrev ref03_Rank_X : Type := DLiiiE × Di × Dii × Unit
abbrev ref03_Rank_R : Type := Int × Int
def ref03_Rank_enc (r : ref03_Rank_R) : LV × List Ob := (.tup [.int .i64 r.1, .int .i64 r.2], [])
def ref03_Rank_sp (F : ref03_Rank_X → Option ref03_Rank_R) : Go.Tx.Spec := ⟨55, ref03_Rank_ps, ref03_Rank_R, F, ref03_Rank_enc⟩
def ref03_Rank_if (x : ref03_Rank_X) : Bool := i64B x.2.2.1.1 && i64B x.2.2.1.2.1 && decide ((ptsL x.1.1).length ≤ 1000000)
def F_ref03_Rank (d : Nat) (x : ref03_Rank_X) : Option ref03_Rank_R := bif ref03_Rank_if x then some ((fieldRank (ptsL x.1.1) x.2.1.1 x.2.2.1.1 x.2.2.1.2.1).1, (fieldRank (ptsL x.1.1) x.2.1.1 x.2.2.1.1 x.2.2.1.2.1).2) else none
theorem F_ref03_Rank_eq (d : Nat) (x : ref03_Rank_X) (h : ref03_Rank_if x = true) : F_ref03_Rank d x = some ((fieldRank (ptsL x.1.1) x.2.1.1 x.2.2.1.1 x.2.2.1.2.1).1, (fieldRank (ptsL x.1.1) x.2.1.1 x.2.2.1.1 x.2.2.1.2.1).2) := by unfold F_ref03_Rank; rw [h]; rfl
theorem ref03_Rank_cok (d : Nat) : COK prog (ref03_Rank_sp (F_ref03_Rank d)) := by
  refine cok_old (body_of (fn := f55) (by kernel_rfl) (by kernel_rfl) (by kernel_rfl)) fun x r hx w φ vs hφ hv => ?_
  have hx : F_ref03_Rank d x = some r := hx
  unfold F_ref03_Rank at hx
  obtain ⟨hc, rfl⟩ := bif_some hx
  have hv : VRs (Emb.fro φ) [.agg [.fz RP x.1.1], .int .i64 x.2.1.1, .agg [.int .i64 x.2.2.1.1, .int .i64 x.2.2.1.2.1]] vs := hv
  obtain ⟨v0, vs, rfl, q0, hv⟩ := VRs.uncons hv
  obtain ⟨v1, vs, rfl, q1, hv⟩ := VRs.uncons hv
  obtain ⟨v2, rfl, q2⟩ := vrs1 hv
  obtain ⟨A0, c0, rfl, s0, z0⟩ := vr_fld hφ q0
  have r1 := vr_int q1; subst r1
  have r2 := vr_ratio q2; subst r2
  unfold ref03_Rank_if at hc
  simp only [Bool.and_eq_true] at hc
  obtain ⟨⟨h1, h2⟩, h3⟩ := hc
  replace h3 := of_decide_eq_true h3
  refine (refRank_any A0 c0 (ptsL x.1.1) x.2.1.1 x.2.2.1.1 x.2.2.1.2.1 w (i64B_iff h1) (i64B_iff h2) s0 h3).mono ?_
  rintro e w' ⟨rfl, y, rfl⟩
  exact gives_pure hφ (VR.tupL (VRs.cons (.int _ _) (VRs.cons (.int _ _) VRs.nil))) y
end Go.Proofs.Ytkcpnclgcmnlcaa

namespace Go.Proofs.Ytkcpnclgcmnlcaa
open Go Go.Tx Go.Pel Go.Proofs.Try
set_option maxRecDepth 100000
set_option maxHeartbeats 0
abbrev ref10_Great_ps : List Pk := [.row RLiELiE true]
abbrev ref10_Great_X : Type := DLiELiE × Unit
abbrev ref10_Great_R : Type := Bool
def ref10_Great_enc (r : ref10_Great_R) : LV × List Ob := (.bool r, [])
def ref10_Great_sp (F : ref10_Great_X → Option ref10_Great_R) : Go.Tx.Spec := ⟨29, ref10_Great_ps, ref10_Great_R, F, ref10_Great_enc⟩
def ref10_Great_if (x : ref10_Great_X) : Bool := true
def F_ref10_Great (d : Nat) (x : ref10_Great_X) : Option ref10_Great_R := bif ref10_Great_if x then some (greatB (idsI x.1.1).length (idsI x.1.2.1).length) else none
theorem F_ref10_Great_eq (d : Nat) (x : ref10_Great_X) (h : ref10_Great_if x = true) : F_ref10_Great d x = some (greatB (idsI x.1.1).length (idsI x.1.2.1).length) := by unfold F_ref10_Great; rw [h]; rfl
theorem ref10_Great_cok (d : Nat) : COK prog (ref10_Great_sp (F_ref10_Great d)) := by
  refine cok_old (body_of (fn := f29) (by kernel_rfl) (by kernel_rfl) (by kernel_rfl)) fun x r hx w φ vs hφ hv => ?_
  have hx : F_ref10_Great d x = some r := hx
  unfold F_ref10_Great at hx
  obtain ⟨hc, rfl⟩ := bif_some hx
  have hv : VRs (Emb.fro φ) [.agg [.fz RI x.1.1, .fz RI x.1.2.1]] vs := hv
  obtain ⟨v0, rfl, q0⟩ := vrs1 hv
  obtain ⟨A0, c0, B0, e0, rfl, s0, t0, z0, y0⟩ := vr_bracket hφ q0
  refine (bgreat_any A0 B0 (idsI x.1.1).length (idsI x.1.2.1).length c0 e0 w).mono ?_
  rintro e w' ⟨rfl, y, rfl⟩
  exact gives_pure hφ (.bool _) y
abbrev ref10_Twin_ps : List Pk := [.row RLiELiE true]
abbrev ref10_Twin_X : Type := DLiELiE × Unit
abbrev ref10_Twin_R : Type := List Di × List Di
def ref10_Twin_enc (r : ref10_Twin_R) : LV × List Ob := (.agg [.rs 0, .rs 1], [.rows Ri r.1, .rows Ri r.2])
def ref10_Twin_sp (F : ref10_Twin_X → Option ref10_Twin_R) : Go.Tx.Spec := ⟨30, ref10_Twin_ps, ref10_Twin_R, F, ref10_Twin_enc⟩
def ref10_Twin_if (x : ref10_Twin_X) : Bool := decide ((idsI x.1.1).length ≤ 1000) && decide ((idsI x.1.2.1).length ≤ 1000)
def F_ref10_Twin (d : Nat) (x : ref10_Twin_X) : Option ref10_Twin_R := bif ref10_Twin_if x then some (unI (idsI x.1.1), unI (idsI x.1.2.1)) else none
theorem F_ref10_Twin_eq (d : Nat) (x : ref10_Twin_X) (h : ref10_Twin_if x = true) : F_ref10_Twin d x = some (unI (idsI x.1.1), unI (idsI x.1.2.1)) := by unfold F_ref10_Twin; rw [h]; rfl
theorem ref10_Twin_cok (d : Nat) : COK prog (ref10_Twin_sp (F_ref10_Twin d)) := by
  refine cok_old (body_of (fn := f30) (by kernel_rfl) (by kernel_rfl) (by kernel_rfl)) fun x r hx w φ vs hφ hv => ?_
  have hx : F_ref10_Twin d x = some r := hx
  unfold F_ref10_Twin at hx
  obtain ⟨hc, rfl⟩ := bif_some hx
  have hv : VRs (Emb.fro φ) [.agg [.fz RI x.1.1, .fz RI x.1.2.1]] vs := hv
  obtain ⟨v0, rfl, q0⟩ := vrs1 hv
  obtain ⟨A0, c0, B0, e0, rfl, s0, t0, z0, y0⟩ := vr_bracket hφ q0
  unfold ref10_Twin_if at hc
  simp only [Bool.and_eq_true] at hc
  obtain ⟨h1, h2⟩ := hc
  replace h1 := of_decide_eq_true h1
  replace h2 := of_decide_eq_true h2
  refine (twin10_any A0 B0 c0 e0 (idsI x.1.1) (idsI x.1.2.1) w s0 t0 z0 y0 h1 h2).mono ?_
  rintro e w' ⟨A', c', B', d', rfl, y, rfl, ho, ho', ha⟩
  exact gives_own2 hφ (τ := Ri) (σ := Ri) rfl rfl (unI_len _) (unI_len _) ho ho' ha (valsL_unI _) (valsL_unI _) fun η e0 e1 => VR.aggL (VRs.cons (.rs e0) (VRs.cons (.rs e1) VRs.nil))
abbrev bracket_Build_ps : List Pk := [.row RLiiiE true, .row Rii true, .row RLiE false]
abbrev bracket_Build_X : Type := DLiiiE × Dii × DLiE × Unit
abbrev bracket_Build_R : Type := List Di × List Di × Int
def bracket_Build_enc (r : bracket_Build_R) : LV × List Ob := (.tup [.agg [.rs 0, .rs 1], .int .i64 r.2.2], [.rows Ri r.1, .rows Ri r.2.1])
def bracket_Build_sp (F : bracket_Build_X → Option bracket_Build_R) : Go.Tx.Spec := ⟨35, bracket_Build_ps, bracket_Build_R, F, bracket_Build_enc⟩
def bracket_Build_if (x : bracket_Build_X) : Bool := i64B x.2.1.1 && i64B x.2.1.2.1 && decide ((ptsL x.1.1).length ≤ 1000000) && decide ((idsI x.2.2.1.1).length ≤ 1000) && all64B (idsI x.2.2.1.1)
def F_bracket_Build (d : Nat) (x : bracket_Build_X) : Option bracket_Build_R := bif bracket_Build_if x then some (unI (brBuild (ptsL x.1.1) x.2.1.1 x.2.1.2.1 (idsI x.2.2.1.1)).1, unI (brBuild (ptsL x.1.1) x.2.1.1 x.2.1.2.1 (idsI x.2.2.1.1)).2.1, (brBuild (ptsL x.1.1) x.2.1.1 x.2.1.2.1 (idsI x.2.2.1.1)).2.2) else none
theorem F_bracket_Build_eq (d : Nat) (x : bracket_Build_X) (h : bracket_Build_if x = true) : F_bracket_Build d x = some (unI (brBuild (ptsL x.1.1) x.2.1.1 x.2.1.2.1 (idsI x.2.2.1.1)).1, unI (brBuild (ptsL x.1.1) x.2.1.1 x.2.1.2.1 (idsI x.2.2.1.1)).2.1, (brBuild (ptsL x.1.1) x.2.1.1 x.2.1.2.1 (idsI x.2.2.1.1)).2.2) := by unfold F_bracket_Build; rw [h]; rfl
theorem bracket_Build_cok (d : Nat) : COK prog (bracket_Build_sp (F_bracket_Build d)) := by
  refine cok_old (body_of (fn := f35) (by kernel_rfl) (by kernel_rfl) (by kernel_rfl)) fun x r hx w φ vs hφ hv => ?_
  have hx : F_bracket_Build d x = some r := hx
  unfold F_bracket_Build at hx
  obtain ⟨hc, rfl⟩ := bif_some hx
  have hv : VRs (Emb.fro φ) [.agg [.fz RP x.1.1], .agg [.int .i64 x.2.1.1, .int .i64 x.2.1.2.1], .fz RI x.2.2.1.1] vs := hv
  obtain ⟨v0, vs, rfl, q0, hv⟩ := VRs.uncons hv
  obtain ⟨v1, vs, rfl, q1, hv⟩ := VRs.uncons hv
  obtain ⟨v2, rfl, q2⟩ := vrs1 hv
  obtain ⟨A0, c0, rfl, s0, z0⟩ := vr_fld hφ q0
  have r1 := vr_ratio q1; subst r1
  obtain ⟨A2, c2, rfl, s2, z2⟩ := vr_idsI hφ q2
  unfold bracket_Build_if at hc
  simp only [Bool.and_eq_true] at hc
  obtain ⟨⟨⟨⟨h1, h2⟩, h3⟩, h4⟩, h5⟩ := hc
  replace h3 := of_decide_eq_true h3
  replace h4 := of_decide_eq_true h4
  refine (bbuild_any A2 A0 c2 c0 (idsI x.2.2.1.1) (ptsL x.1.1) x.2.1.1 x.2.1.2.1 w (i64B_iff h1) (i64B_iff h2) s2 z2 s0 h3 h4 (all64B_iff h5)).mono ?_
  rintro e w' ⟨A', c', B', d', rfl, y, rfl, ho, ho', ha⟩
  exact gives_own2 hφ (τ := Ri) (σ := Ri) rfl rfl (unI_len _) (unI_len _) ho ho' ha (valsL_unI _) (valsL_unI _) fun η e0 e1 => VR.tupL (VRs.cons (VR.aggL (VRs.cons (.rs e0) (VRs.cons (.rs e1) VRs.nil))) (VRs.cons (.int _ _) VRs.nil))
abbrev ref10_Build_ps : List Pk := [.row RLiiiE true, .row Rii true, .row RLiE false]
abbrev ref10_Build_X : Type := DLiiiE × Dii × DLiE × Unit
abbrev ref10_Build_R : Type := List Di × List Di × Int
def ref10_Build_enc (r : ref10_Build_R) : LV × List Ob := (.tup [.agg [.rs 0, .rs 1], .int .i64 r.2.2], [.rows Ri r.1, .rows Ri r.2.1])
def ref10_Build_sp (F : ref10_Build_X → Option ref10_Build_R) : Go.Tx.Spec := ⟨36, ref10_Build_ps, ref10_Build_R, F, ref10_Build_enc⟩
def ref10_Build_if (x : ref10_Build_X) : Bool := i64B x.2.1.1 && i64B x.2.1.2.1 && decide ((ptsL x.1.1).length ≤ 1000000) && decide ((idsI x.2.2.1.1).length ≤ 1000)
def F_ref10_Build (d : Nat) (x : ref10_Build_X) : Option ref10_Build_R := bif ref10_Build_if x then some (unI (brBuild (ptsL x.1.1) x.2.1.1 x.2.1.2.1 (idsI x.2.2.1.1)).1, unI (brBuild (ptsL x.1.1) x.2.1.1 x.2.1.2.1 (idsI x.2.2.1.1)).2.1, (brBuild (ptsL x.1.1) x.2.1.1 x.2.1.2.1 (idsI x.2.2.1.1)).2.2) else none
theorem F_ref10_Build_eq (d : Nat) (x : ref10_Build_X) (h : ref10_Build_if x = true) : F_ref10_Build d x = some (unI (brBuild (ptsL x.1.1) x.2.1.1 x.2.1.2.1 (idsI x.2.2.1.1)).1, unI (brBuild (ptsL x.1.1) x.2.1.1 x.2.1.2.1 (idsI x.2.2.1.1)).2.1, (brBuild (ptsL x.1.1) x.2.1.1 x.2.1.2.1 (idsI x.2.2.1.1)).2.2) := by unfold F_ref10_Build; rw [h]; rfl
theorem ref10_Build_cok (d : Nat) : COK prog (ref10_Build_sp (F_ref10_Build d)) := by
  refine cok_old (body_of (fn := f36) (by kernel_rfl) (by kernel_rfl) (by kernel_rfl)) fun x r hx w φ vs hφ hv => ?_
  have hx : F_ref10_Build d x = some r := hx
  unfold F_ref10_Build at hx
  obtain ⟨hc, rfl⟩ := bif_some hx
  have hv : VRs (Emb.fro φ) [.agg [.fz RP x.1.1], .agg [.int .i64 x.2.1.1, .int .i64 x.2.1.2.1], .fz RI x.2.2.1.1] vs := hv
  obtain ⟨v0, vs, rfl, q0, hv⟩ := VRs.uncons hv
  obtain ⟨v1, vs, rfl, q1, hv⟩ := VRs.uncons hv
  obtain ⟨v2, rfl, q2⟩ := vrs1 hv
  obtain ⟨A0, c0, rfl, s0, z0⟩ := vr_fld hφ q0
  have r1 := vr_ratio q1; subst r1
  obtain ⟨A2, c2, rfl, s2, z2⟩ := vr_idsI hφ q2
  unfold ref10_Build_if at hc
  simp only [Bool.and_eq_true] at hc
  obtain ⟨⟨⟨h1, h2⟩, h3⟩, h4⟩ := hc
  replace h3 := of_decide_eq_true h3
  replace h4 := of_decide_eq_true h4
  refine (rbuild_any A2 A0 c2 c0 (idsI x.2.2.1.1) (ptsL x.1.1) x.2.1.1 x.2.1.2.1 w (i64B_iff h1) (i64B_iff h2) s2 z2 s0 h3 h4).mono ?_
  rintro e w' ⟨A', c', B', d', rfl, y, rfl, ho, ho', ha⟩
  exact gives_own2 hφ (τ := Ri) (σ := Ri) rfl rfl (unI_len _) (unI_len _) ho ho' ha (valsL_unI _) (valsL_unI _) fun η e0 e1 => VR.tupL (VRs.cons (VR.aggL (VRs.cons (.rs e0) (VRs.cons (.rs e1) VRs.nil))) (VRs.cons (.int _ _) VRs.nil))
abbrev bracket_Winner_ps : List Pk := [.row RLiELiE true]
abbrev bracket_Winner_X : Type := DLiELiE × Unit
abbrev bracket_Winner_R : Type := Int × Int
def bracket_Winner_enc (r : bracket_Winner_R) : LV × List Ob := (.tup [.int .i64 r.1, .int .i64 r.2], [])
def bracket_Winner_sp (F : bracket_Winner_X → Option bracket_Winner_R) : Go.Tx.Spec := ⟨37, bracket_Winner_ps, bracket_Winner_R, F, bracket_Winner_enc⟩
def bracket_Winner_if (x : bracket_Winner_X) : Bool := decide ((idsI x.1.1).length ≤ 1000) && decide ((idsI x.1.2.1).length ≤ 1000) && all64B (idsI x.1.1)
def F_bracket_Winner (d : Nat) (x : bracket_Winner_X) : Option bracket_Winner_R := bif bracket_Winner_if x then some ((brWinner (idsI x.1.1) (idsI x.1.2.1)).1, (brWinner (idsI x.1.1) (idsI x.1.2.1)).2) else none
theorem F_bracket_Winner_eq (d : Nat) (x : bracket_Winner_X) (h : bracket_Winner_if x = true) : F_bracket_Winner d x = some ((brWinner (idsI x.1.1) (idsI x.1.2.1)).1, (brWinner (idsI x.1.1) (idsI x.1.2.1)).2) := by unfold F_bracket_Winner; rw [h]; rfl
theorem bracket_Winner_cok (d : Nat) : COK prog (bracket_Winner_sp (F_bracket_Winner d)) := by
  refine cok_old (body_of (fn := f37) (by kernel_rfl) (by kernel_rfl) (by kernel_rfl)) fun x r hx w φ vs hφ hv => ?_
  have hx : F_bracket_Winner d x = some r := hx
  unfold F_bracket_Winner at hx
  obtain ⟨hc, rfl⟩ := bif_some hx
  have hv : VRs (Emb.fro φ) [.agg [.fz RI x.1.1, .fz RI x.1.2.1]] vs := hv
  obtain ⟨v0, rfl, q0⟩ := vrs1 hv
  obtain ⟨A0, c0, B0, e0, rfl, s0, t0, z0, y0⟩ := vr_bracket hφ q0
  unfold bracket_Winner_if at hc
  simp only [Bool.and_eq_true] at hc
  obtain ⟨⟨h1, h2⟩, h3⟩ := hc
  replace h1 := of_decide_eq_true h1
  replace h2 := of_decide_eq_true h2
  refine (bwinner_any A0 B0 c0 e0 (idsI x.1.1) (idsI x.1.2.1) w s0 t0 h1 h2 (all64B_iff h3)).mono ?_
  rintro e w' ⟨rfl, y, rfl⟩
  exact gives_pure hφ (VR.tupL (VRs.cons (.int _ _) (VRs.cons (.int _ _) VRs.nil))) y
abbrev ref10_Winner_ps : List Pk := [.row RLiELiE true]
abbrev ref10_Winner_X : Type := DLiELiE × Unit
abbrev ref10_Winner_R : Type := Int × Int
def ref10_Winner_enc (r : ref10_Winner_R) : LV × List Ob := (.tup [.int .i64 r.1, .int .i64 r.2], [])
def ref10_Winner_sp (F : ref10_Winner_X → Option ref10_Winner_R) : Go.Tx.Spec := ⟨38, ref10_Winner_ps, ref10_Winner_R, F, ref10_Winner_enc⟩
def ref10_Winner_if (x : ref10_Winner_X) : Bool := decide ((idsI x.1.1).length ≤ 1000) && decide ((idsI x.1.2.1).length ≤ 1000)
def F_ref10_Winner (d : Nat) (x : ref10_Winner_X) : Option ref10_Winner_R := bif ref10_Winner_if x then some ((brWinner (idsI x.1.1) (idsI x.1.2.1)).1, (brWinner (idsI x.1.1) (idsI x.1.2.1)).2) else none
theorem F_ref10_Winner_eq (d : Nat) (x : ref10_Winner_X) (h : ref10_Winner_if x = true) : F_ref10_Winner d x = some ((brWinner (idsI x.1.1) (idsI x.1.2.1)).1, (brWinner (idsI x.1.1) (idsI x.1.2.1)).2) := by unfold F_ref10_Winner; rw [h]; rfl
theorem ref10_Winner_cok (d : Nat) : COK prog (ref10_Winner_sp (F_ref10_Winner d)) := by
  refine cok_old (body_of (fn := f38) (by kernel_rfl) (by kernel_rfl) (by kernel_rfl)) fun x r hx w φ vs hφ hv => ?_
  have hx : F_ref10_Winner d x = some r := hx
  unfold F_ref10_Winner at hx
  obtain ⟨hc, rfl⟩ := bif_some hx
  have hv : VRs (Emb.fro φ) [.agg [.fz RI x.1.1, .fz RI x.1.2.1]] vs := hv
  obtain ⟨v0, rfl, q0⟩ := vrs1 hv
  obtain ⟨A0, c0, B0, e0, rfl, s0, t0, z0, y0⟩ := vr_bracket hφ q0
  unfold ref10_Winner_if at hc
  simp only [Bool.and_eq_true] at hc
  obtain ⟨h1, h2⟩ := hc
  replace h1 := of_decide_eq_true h1
  replace h2 := of_decide_eq_true h2
  refine (rwinner_any A0 B0 c0 e0 (idsI x.1.1) (idsI x.1.2.1) w s0 t0 h1 h2).mono ?_
  rintro e w' ⟨rfl, y, rfl⟩
  exact gives_pure hφ (VR.tupL (VRs.cons (.int _ _) (VRs.cons (.int _ _) VRs.nil))) y
abbrev bracket_Path_ps : List Pk := [.row RLiELiE true, .row Ri false]
abbrev bracket_Path_X : Type := DLiELiE × Di × Unit
abbrev bracket_Path_R : Type := List Di × Int
def bracket_Path_enc (r : bracket_Path_R) : LV × List Ob := (.tup [.rs 0, .int .i64 r.2], [.rows Ri r.1])
def bracket_Path_sp (F : bracket_Path_X → Option bracket_Path_R) : Go.Tx.Spec := ⟨39, bracket_Path_ps, bracket_Path_R, F, bracket_Path_enc⟩
def bracket_Path_if (x : bracket_Path_X) : Bool := decide ((idsI x.1.1).length ≤ 1000) && decide ((idsI x.1.2.1).length ≤ 1000) && all64B (idsI x.1.1)
def F_bracket_Path (d : Nat) (x : bracket_Path_X) : Option bracket_Path_R := bif bracket_Path_if x then some (unI (brPath (idsI x.1.1) (idsI x.1.2.1) x.2.1.1).1, (brPath (idsI x.1.1) (idsI x.1.2.1) x.2.1.1).2) else none
theorem F_bracket_Path_eq (d : Nat) (x : bracket_Path_X) (h : bracket_Path_if x = true) : F_bracket_Path d x = some (unI (brPath (idsI x.1.1) (idsI x.1.2.1) x.2.1.1).1, (brPath (idsI x.1.1) (idsI x.1.2.1) x.2.1.1).2) := by unfold F_bracket_Path; rw [h]; rfl
theorem bracket_Path_cok (d : Nat) : COK prog (bracket_Path_sp (F_bracket_Path d)) := by
  refine cok_old (body_of (fn := f39) (by kernel_rfl) (by kernel_rfl) (by kernel_rfl)) fun x r hx w φ vs hφ hv => ?_
  have hx : F_bracket_Path d x = some r := hx
  unfold F_bracket_Path at hx
  obtain ⟨hc, rfl⟩ := bif_some hx
  have hv : VRs (Emb.fro φ) [.agg [.fz RI x.1.1, .fz RI x.1.2.1], .int .i64 x.2.1.1] vs := hv
  obtain ⟨v0, vs, rfl, q0, hv⟩ := VRs.uncons hv
  obtain ⟨v1, rfl, q1⟩ := vrs1 hv
  obtain ⟨A0, c0, B0, e0, rfl, s0, t0, z0, y0⟩ := vr_bracket hφ q0
  have r1 := vr_int q1; subst r1
  unfold bracket_Path_if at hc
  simp only [Bool.and_eq_true] at hc
  obtain ⟨⟨h1, h2⟩, h3⟩ := hc
  replace h1 := of_decide_eq_true h1
  replace h2 := of_decide_eq_true h2
  refine (bpath_any A0 B0 c0 e0 (idsI x.1.1) (idsI x.1.2.1) x.2.1.1 w s0 t0 h1 h2 (all64B_iff h3)).mono ?_
  rintro e w' ⟨A', c', rfl, y, rfl, ho⟩
  exact gives_own hφ (τ := Ri) rfl (unI_len _) ho (valsL_unI _) fun η e0 => VR.tupL (VRs.cons (.rs e0) (VRs.cons (.int _ _) VRs.nil))
abbrev ref10_Path_ps : List Pk := [.row RLiELiE true, .row Ri false]
abbrev ref10_Path_X : Type := DLiELiE × Di × Unit
abbrev ref10_Path_R : Type := List Di × Int
def ref10_Path_enc (r : ref10_Path_R) : LV × List Ob := (.tup [.rs 0, .int .i64 r.2], [.rows Ri r.1])
def ref10_Path_sp (F : ref10_Path_X → Option ref10_Path_R) : Go.Tx.Spec := ⟨40, ref10_Path_ps, ref10_Path_R, F, ref10_Path_enc⟩
def ref10_Path_if (x : ref10_Path_X) : Bool := decide ((idsI x.1.1).length ≤ 1000) && decide ((idsI x.1.2.1).length ≤ 1000)
def F_ref10_Path (d : Nat) (x : ref10_Path_X) : Option ref10_Path_R := bif ref10_Path_if x then some (unI (brPath (idsI x.1.1) (idsI x.1.2.1) x.2.1.1).1, (brPath (idsI x.1.1) (idsI x.1.2.1) x.2.1.1).2) else none
theorem F_ref10_Path_eq (d : Nat) (x : ref10_Path_X) (h : ref10_Path_if x = true) : F_ref10_Path d x = some (unI (brPath (idsI x.1.1) (idsI x.1.2.1) x.2.1.1).1, (brPath (idsI x.1.1) (idsI x.1.2.1) x.2.1.1).2) := by unfold F_ref10_Path; rw [h]; rfl
theorem ref10_Path_cok (d : Nat) : COK prog (ref10_Path_sp (F_ref10_Path d)) := by
  refine cok_old (body_of (fn := f40) (by kernel_rfl) (by kernel_rfl) (by kernel_rfl)) fun x r hx w φ vs hφ hv => ?_
  have hx : F_ref10_Path d x = some r := hx
  unfold F_ref10_Path at hx
  obtain ⟨hc, rfl⟩ := bif_some hx
  have hv : VRs (Emb.fro φ) [.agg [.fz RI x.1.1, .fz RI x.1.2.1], .int .i64 x.2.1.1] vs := hv
  obtain ⟨v0, vs, rfl, q0, hv⟩ := VRs.uncons hv
  obtain ⟨v1, rfl, q1⟩ := vrs1 hv
  obtain ⟨A0, c0, B0, e0, rfl, s0, t0, z0, y0⟩ := vr_bracket hφ q0
  have r1 := vr_int q1; subst r1
  unfold ref10_Path_if at hc
  simp only [Bool.and_eq_true] at hc
  obtain ⟨h1, h2⟩ := hc
  replace h1 := of_decide_eq_true h1
  replace h2 := of_decide_eq_true h2
  refine (rpath_any A0 B0 c0 e0 (idsI x.1.1) (idsI x.1.2.1) x.2.1.1 w s0 t0 h1 h2).mono ?_
  rintro e w' ⟨A', c', rfl, y, rfl, ho⟩
  exact gives_own hφ (τ := Ri) rfl (unI_len _) ho (valsL_unI _) fun η e0 => VR.tupL (VRs.cons (.rs e0) (VRs.cons (.int _ _) VRs.nil))
abbrev bracket_Right_ps : List Pk := [.row RLiELiE true, .row RLiiiE true, .row Rii true]
abbrev bracket_Right_X : Type := DLiELiE × DLiiiE × Dii × Unit
abbrev bracket_Right_R : Type := Bool × Int
def bracket_Right_enc (r : bracket_Right_R) : LV × List Ob := (.tup [.bool r.1, .int .i64 r.2], [])
def bracket_Right_sp (F : bracket_Right_X → Option bracket_Right_R) : Go.Tx.Spec := ⟨41, bracket_Right_ps, bracket_Right_R, F, bracket_Right_enc⟩
def bracket_Right_if (x : bracket_Right_X) : Bool := decide ((idsI x.1.1).length ≤ 1000) && decide ((idsI x.1.2.1).length ≤ 1000) && decide ((ptsL x.2.1.1).length ≤ 1000000) && all64B (idsI x.1.1) && i64B x.2.2.1.1 && i64B x.2.2.1.2.1
def F_bracket_Right (d : Nat) (x : bracket_Right_X) : Option bracket_Right_R := bif bracket_Right_if x then some ((brRight (ptsL x.2.1.1) x.2.2.1.1 x.2.2.1.2.1 (idsI x.1.1) (idsI x.1.2.1)).1, (brRight (ptsL x.2.1.1) x.2.2.1.1 x.2.2.1.2.1 (idsI x.1.1) (idsI x.1.2.1)).2) else none
theorem F_bracket_Right_eq (d : Nat) (x : bracket_Right_X) (h : bracket_Right_if x = true) : F_bracket_Right d x = some ((brRight (ptsL x.2.1.1) x.2.2.1.1 x.2.2.1.2.1 (idsI x.1.1) (idsI x.1.2.1)).1, (brRight (ptsL x.2.1.1) x.2.2.1.1 x.2.2.1.2.1 (idsI x.1.1) (idsI x.1.2.1)).2) := by unfold F_bracket_Right; rw [h]; rfl
theorem bracket_Right_cok (d : Nat) : COK prog (bracket_Right_sp (F_bracket_Right d)) := by
  refine cok_old (body_of (fn := f41) (by kernel_rfl) (by kernel_rfl) (by kernel_rfl)) fun x r hx w φ vs hφ hv => ?_
  have hx : F_bracket_Right d x = some r := hx
  unfold F_bracket_Right at hx
  obtain ⟨hc, rfl⟩ := bif_some hx
  have hv : VRs (Emb.fro φ) [.agg [.fz RI x.1.1, .fz RI x.1.2.1], .agg [.fz RP x.2.1.1], .agg [.int .i64 x.2.2.1.1, .int .i64 x.2.2.1.2.1]] vs := hv
  obtain ⟨v0, vs, rfl, q0, hv⟩ := VRs.uncons hv
  obtain ⟨v1, vs, rfl, q1, hv⟩ := VRs.uncons hv
  obtain ⟨v2, rfl, q2⟩ := vrs1 hv
  obtain ⟨A0, c0, B0, e0, rfl, s0, t0, z0, y0⟩ := vr_bracket hφ q0
  obtain ⟨A1, c1, rfl, s1, z1⟩ := vr_fld hφ q1
  have r2 := vr_ratio q2; subst r2
  unfold bracket_Right_if at hc
  simp only [Bool.and_eq_true] at hc
  obtain ⟨⟨⟨⟨⟨h1, h2⟩, h3⟩, h4⟩, h5⟩, h6⟩ := hc
  replace h1 := of_decide_eq_true h1
  replace h2 := of_decide_eq_true h2
  replace h3 := of_decide_eq_true h3
  refine (bright_any A0 B0 A1 c0 e0 c1 (idsI x.1.1) (idsI x.1.2.1) (ptsL x.2.1.1) x.2.2.1.1 x.2.2.1.2.1 w (i64B_iff h5) (i64B_iff h6) s0 t0 s1 h1 h2 h3 (all64B_iff h4)).mono ?_
  rintro e w' ⟨rfl, y, rfl⟩
  exact gives_pure hφ (VR.tupL (VRs.cons (.bool _) (VRs.cons (.int _ _) VRs.nil))) y
abbrev ref10_Right_ps : List Pk := [.row RLiELiE true, .row RLiiiE true, .row Rii true]
abbrev ref10_Right_X : Type := DLiELiE × DLiiiE × Dii × Unit
abbrev ref10_Right_R : Type := Bool × Int
def ref10_Right_enc (r : ref10_Right_R) : LV × List Ob := (.tup [.bool r.1, .int .i64 r.2], [])
def ref10_Right_sp (F : ref10_Right_X → Option ref10_Right_R) : Go.Tx.Spec := ⟨42, ref10_Right_ps, ref10_Right_R, F, ref10_Right_enc⟩
def ref10_Right_if (x : ref10_Right_X) : Bool := decide ((idsI x.1.1).length ≤ 1000) && decide ((idsI x.1.2.1).length ≤ 1000) && decide ((ptsL x.2.1.1).length ≤ 1000000) && i64B x.2.2.1.1 && i64B x.2.2.1.2.1
def F_ref10_Right (d : Nat) (x : ref10_Right_X) : Option ref10_Right_R := bif ref10_Right_if x then some ((brRight (ptsL x.2.1.1) x.2.2.1.1 x.2.2.1.2.1 (idsI x.1.1) (idsI x.1.2.1)).1, (brRight (ptsL x.2.1.1) x.2.2.1.1 x.2.2.1.2.1 (idsI x.1.1) (idsI x.1.2.1)).2) else none
theorem F_ref10_Right_eq (d : Nat) (x : ref10_Right_X) (h : ref10_Right_if x = true) : F_ref10_Right d x = some ((brRight (ptsL x.2.1.1) x.2.2.1.1 x.2.2.1.2.1 (idsI x.1.1) (idsI x.1.2.1)).1, (brRight (ptsL x.2.1.1) x.2.2.1.1 x.2.2.1.2.1 (idsI x.1.1) (idsI x.1.2.1)).2) := by unfold F_ref10_Right; rw [h]; rfl
theorem ref10_Right_cok (d : Nat) : COK prog (ref10_Right_sp (F_ref10_Right d)) := by
  refine cok_old (body_of (fn := f42) (by kernel_rfl) (by kernel_rfl) (by kernel_rfl)) fun x r hx w φ vs hφ hv => ?_
  have hx : F_ref10_Right d x = some r := hx
  unfold F_ref10_Right at hx
  obtain ⟨hc, rfl⟩ := bif_some hx
  have hv : VRs (Emb.fro φ) [.agg [.fz RI x.1.1, .fz RI x.1.2.1], .agg [.fz RP x.2.1.1], .agg [.int .i64 x.2.2.1.1, .int .i64 x.2.2.1.2.1]] vs := hv
  obtain ⟨v0, vs, rfl, q0, hv⟩ := VRs.uncons hv
  obtain ⟨v1, vs, rfl, q1, hv⟩ := VRs.uncons hv
  obtain ⟨v2, rfl, q2⟩ := vrs1 hv
  obtain ⟨A0, c0, B0, e0, rfl, s0, t0, z0, y0⟩ := vr_bracket hφ q0
  obtain ⟨A1, c1, rfl, s1, z1⟩ := vr_fld hφ q1
  have r2 := vr_ratio q2; subst r2
  unfold ref10_Right_if at hc
  simp only [Bool.and_eq_true] at hc
  obtain ⟨⟨⟨⟨h1, h2⟩, h3⟩, h4⟩, h5⟩ := hc
  replace h1 := of_decide_eq_true h1
  replace h2 := of_decide_eq_true h2
  replace h3 := of_decide_eq_true h3
  refine (rright_any A0 B0 A1 c0 e0 c1 (idsI x.1.1) (idsI x.1.2.1) (ptsL x.2.1.1) x.2.2.1.1 x.2.2.1.2.1 w (i64B_iff h4) (i64B_iff h5) s0 t0 s1 h1 h2 h3).mono ?_
  rintro e w' ⟨rfl, y, rfl⟩
  exact gives_pure hφ (VR.tupL (VRs.cons (.bool _) (VRs.cons (.int _ _) VRs.nil))) y
abbrev bracket_Check_ps : List Pk := [.row RLiELiE true]
abbrev bracket_Check_X : Type := DLiELiE × Unit
abbrev bracket_Check_R : Type := Int
def bracket_Check_enc (r : bracket_Check_R) : LV × List Ob := (.int .i64 r, [])
def bracket_Check_sp (F : bracket_Check_X → Option bracket_Check_R) : Go.Tx.Spec := ⟨43, bracket_Check_ps, bracket_Check_R, F, bracket_Check_enc⟩
def bracket_Check_if (x : bracket_Check_X) : Bool := decide ((idsI x.1.1).length ≤ 1000) && decide ((idsI x.1.2.1).length ≤ 1000) && all64B (idsI x.1.1)
def F_bracket_Check (d : Nat) (x : bracket_Check_X) : Option bracket_Check_R := bif bracket_Check_if x then some (brChk (idsI x.1.1) (idsI x.1.2.1)) else none
theorem F_bracket_Check_eq (d : Nat) (x : bracket_Check_X) (h : bracket_Check_if x = true) : F_bracket_Check d x = some (brChk (idsI x.1.1) (idsI x.1.2.1)) := by unfold F_bracket_Check; rw [h]; rfl
theorem bracket_Check_cok (d : Nat) : COK prog (bracket_Check_sp (F_bracket_Check d)) := by
  refine cok_old (body_of (fn := f43) (by kernel_rfl) (by kernel_rfl) (by kernel_rfl)) fun x r hx w φ vs hφ hv => ?_
  have hx : F_bracket_Check d x = some r := hx
  unfold F_bracket_Check at hx
  obtain ⟨hc, rfl⟩ := bif_some hx
  have hv : VRs (Emb.fro φ) [.agg [.fz RI x.1.1, .fz RI x.1.2.1]] vs := hv
  obtain ⟨v0, rfl, q0⟩ := vrs1 hv
  obtain ⟨A0, c0, B0, e0, rfl, s0, t0, z0, y0⟩ := vr_bracket hφ q0
  unfold bracket_Check_if at hc
  simp only [Bool.and_eq_true] at hc
  obtain ⟨⟨h1, h2⟩, h3⟩ := hc
  replace h1 := of_decide_eq_true h1
  replace h2 := of_decide_eq_true h2
  refine (bcheck_any A0 B0 c0 e0 (idsI x.1.1) (idsI x.1.2.1) w s0 t0 h1 h2 (all64B_iff h3)).mono ?_
  rintro e w' ⟨rfl, y, rfl⟩
  exact gives_pure hφ (.int _ _) y
abbrev ref10_Check_ps : List Pk := [.row RLiELiE true]
abbrev ref10_Check_X : Type := DLiELiE × Unit
abbrev ref10_Check_R : Type := Int
def ref10_Check_enc (r : ref10_Check_R) : LV × List Ob := (.int .i64 r, [])
def ref10_Check_sp (F : ref10_Check_X → Option ref10_Check_R) : Go.Tx.Spec := ⟨44, ref10_Check_ps, ref10_Check_R, F, ref10_Check_enc⟩
def ref10_Check_if (x : ref10_Check_X) : Bool := decide ((idsI x.1.1).length ≤ 1000) && decide ((idsI x.1.2.1).length ≤ 1000)
def F_ref10_Check (d : Nat) (x : ref10_Check_X) : Option ref10_Check_R := bif ref10_Check_if x then some (brChk (idsI x.1.1) (idsI x.1.2.1)) else none
theorem F_ref10_Check_eq (d : Nat) (x : ref10_Check_X) (h : ref10_Check_if x = true) : F_ref10_Check d x = some (brChk (idsI x.1.1) (idsI x.1.2.1)) := by unfold F_ref10_Check; rw [h]; rfl
theorem ref10_Check_cok (d : Nat) : COK prog (ref10_Check_sp (F_ref10_Check d)) := by
  refine cok_old (body_of (fn := f44) (by kernel_rfl) (by kernel_rfl) (by kernel_rfl)) fun x r hx w φ vs hφ hv => ?_
  have hx : F_ref10_Check d x = some r := hx
  unfold F_ref10_Check at hx
  obtain ⟨hc, rfl⟩ := bif_some hx
  have hv : VRs (Emb.fro φ) [.agg [.fz RI x.1.1, .fz RI x.1.2.1]] vs := hv
  obtain ⟨v0, rfl, q0⟩ := vrs1 hv
  obtain ⟨A0, c0, B0, e0, rfl, s0, t0, z0, y0⟩ := vr_bracket hφ q0
  unfold ref10_Check_if at hc
  simp only [Bool.and_eq_true] at hc
  obtain ⟨h1, h2⟩ := hc
  replace h1 := of_decide_eq_true h1
  replace h2 := of_decide_eq_true h2
  refine (rcheck_any A0 B0 c0 e0 (idsI x.1.1) (idsI x.1.2.1) w s0 t0 h1 h2).mono ?_
  rintro e w' ⟨rfl, y, rfl⟩
  exact gives_pure hφ (.int _ _) y
abbrev ref10_Same_ps : List Pk := [.row RLiELiE true, .row RLiELiE true]
abbrev ref10_Same_X : Type := DLiELiE × DLiELiE × Unit
abbrev ref10_Same_R : Type := Bool
def ref10_Same_enc (r : ref10_Same_R) : LV × List Ob := (.bool r, [])
def ref10_Same_sp (F : ref10_Same_X → Option ref10_Same_R) : Go.Tx.Spec := ⟨33, ref10_Same_ps, ref10_Same_R, F, ref10_Same_enc⟩
def ref10_Same_if (x : ref10_Same_X) : Bool := decide ((idsI x.1.1).length ≤ 1000000) && decide ((idsI x.1.2.1).length ≤ 1000000) && decide ((idsI x.2.1.1).length ≤ 1000000) && decide ((idsI x.2.1.2.1).length ≤ 1000000)
def F_ref10_Same (d : Nat) (x : ref10_Same_X) : Option ref10_Same_R := bif ref10_Same_if x then some (decide ((idsI x.1.1) = (idsI x.2.1.1)) && decide ((idsI x.1.2.1) = (idsI x.2.1.2.1))) else none
theorem F_ref10_Same_eq (d : Nat) (x : ref10_Same_X) (h : ref10_Same_if x = true) : F_ref10_Same d x = some (decide ((idsI x.1.1) = (idsI x.2.1.1)) && decide ((idsI x.1.2.1) = (idsI x.2.1.2.1))) := by unfold F_ref10_Same; rw [h]; rfl
theorem ref10_Same_cok (d : Nat) : COK prog (ref10_Same_sp (F_ref10_Same d)) := by
  refine cok_old (body_of (fn := f33) (by kernel_rfl) (by kernel_rfl) (by kernel_rfl)) fun x r hx w φ vs hφ hv => ?_
  have hx : F_ref10_Same d x = some r := hx
  unfold F_ref10_Same at hx
  obtain ⟨hc, rfl⟩ := bif_some hx
  have hv : VRs (Emb.fro φ) [.agg [.fz RI x.1.1, .fz RI x.1.2.1], .agg [.fz RI x.2.1.1, .fz RI x.2.1.2.1]] vs := hv
  obtain ⟨v0, vs, rfl, q0, hv⟩ := VRs.uncons hv
  obtain ⟨v1, rfl, q1⟩ := vrs1 hv
  obtain ⟨A0, c0, B0, e0, rfl, s0, t0, z0, y0⟩ := vr_bracket hφ q0
  obtain ⟨A1, c1, B1, e1, rfl, s1, t1, z1, y1⟩ := vr_bracket hφ q1
  unfold ref10_Same_if at hc
  simp only [Bool.and_eq_true] at hc
  obtain ⟨⟨⟨h1, h2⟩, h3⟩, h4⟩ := hc
  replace h1 := of_decide_eq_true h1
  replace h2 := of_decide_eq_true h2
  replace h3 := of_decide_eq_true h3
  replace h4 := of_decide_eq_true h4
  refine (bsame_any A0 B0 A1 B1 c0 e0 c1 e1 (idsI x.1.1) (idsI x.1.2.1) (idsI x.2.1.1) (idsI x.2.1.2.1) w s0 t0 s1 t1 h1 h2 h3 h4).mono ?_
  rintro e w' ⟨rfl, y, rfl⟩
  exact gives_pure hφ (.bool _) y
abbrev ref10_Known_ps : List Pk := [.row RLiiiE true, .row RLiE false]
abbrev ref10_Known_X : Type := DLiiiE × DLiE × Unit
abbrev ref10_Known_R : Type := Bool
def ref10_Known_enc (r : ref10_Known_R) : LV × List Ob := (.bool r, [])
def ref10_Known_sp (F : ref10_Known_X → Option ref10_Known_R) : Go.Tx.Spec := ⟨59, ref10_Known_ps, ref10_Known_R, F, ref10_Known_enc⟩
def ref10_Known_if (x : ref10_Known_X) : Bool := decide ((ptsL x.1.1).length ≤ 1000000) && decide ((idsI x.2.1.1).length ≤ 1000000)
def F_ref10_Known (d : Nat) (x : ref10_Known_X) : Option ref10_Known_R := bif ref10_Known_if x then some (knownB (ptsL x.1.1) (idsI x.2.1.1)) else none
theorem F_ref10_Known_eq (d : Nat) (x : ref10_Known_X) (h : ref10_Known_if x = true) : F_ref10_Known d x = some (knownB (ptsL x.1.1) (idsI x.2.1.1)) := by unfold F_ref10_Known; rw [h]; rfl
theorem ref10_Known_cok (d : Nat) : COK prog (ref10_Known_sp (F_ref10_Known d)) := by
  refine cok_old (body_of (fn := f59) (by kernel_rfl) (by kernel_rfl) (by kernel_rfl)) fun x r hx w φ vs hφ hv => ?_
  have hx : F_ref10_Known d x = some r := hx
  unfold F_ref10_Known at hx
  obtain ⟨hc, rfl⟩ := bif_some hx
  have hv : VRs (Emb.fro φ) [.agg [.fz RP x.1.1], .fz RI x.2.1.1] vs := hv
  obtain ⟨v0, vs, rfl, q0, hv⟩ := VRs.uncons hv
  obtain ⟨v1, rfl, q1⟩ := vrs1 hv
  obtain ⟨A0, c0, rfl, s0, z0⟩ := vr_fld hφ q0
  obtain ⟨A1, c1, rfl, s1, z1⟩ := vr_idsI hφ q1
  unfold ref10_Known_if at hc
  simp only [Bool.and_eq_true] at hc
  obtain ⟨h1, h2⟩ := hc
  replace h1 := of_decide_eq_true h1
  replace h2 := of_decide_eq_true h2
  refine (rknown_any A0 A1 c0 c1 (ptsL x.1.1) (idsI x.2.1.1) w s0 s1 h1 h2).mono ?_
  rintro e w' ⟨rfl, y, rfl⟩
  exact gives_pure hφ (.bool _) y
abbrev bracket_timed_ps : List Pk := [.row RLiiiE true, .row Rii true]
abbrev bracket_timed_X : Type := DLiiiE × Dii × Unit
abbrev bracket_timed_R : Type := Int
def bracket_timed_enc (r : bracket_timed_R) : LV × List Ob := (.int .i64 r, [])
def bracket_timed_sp (F : bracket_timed_X → Option bracket_timed_R) : Go.Tx.Spec := ⟨74, bracket_timed_ps, bracket_timed_R, F, bracket_timed_enc⟩
def bracket_timed_if (x : bracket_timed_X) : Bool := i64B x.2.1.1 && i64B x.2.1.2.1
def F_bracket_timed (d : Nat) (x : bracket_timed_X) : Option bracket_timed_R := bif bracket_timed_if x then some (timed (ptsL x.1.1) x.2.1.1 x.2.1.2.1) else none
theorem F_bracket_timed_eq (d : Nat) (x : bracket_timed_X) (h : bracket_timed_if x = true) : F_bracket_timed d x = some (timed (ptsL x.1.1) x.2.1.1 x.2.1.2.1) := by unfold F_bracket_timed; rw [h]; rfl
theorem bracket_timed_cok (d : Nat) : COK prog (bracket_timed_sp (F_bracket_timed d)) := by
  refine cok_old (body_of (fn := f74) (by kernel_rfl) (by kernel_rfl) (by kernel_rfl)) fun x r hx w φ vs hφ hv => ?_
  have hx : F_bracket_timed d x = some r := hx
  unfold F_bracket_timed at hx
  obtain ⟨hc, rfl⟩ := bif_some hx
  have hv : VRs (Emb.fro φ) [.agg [.fz RP x.1.1], .agg [.int .i64 x.2.1.1, .int .i64 x.2.1.2.1]] vs := hv
  obtain ⟨v0, vs, rfl, q0, hv⟩ := VRs.uncons hv
  obtain ⟨v1, rfl, q1⟩ := vrs1 hv
  obtain ⟨A0, c0, rfl, s0, z0⟩ := vr_fld hφ q0
  have r1 := vr_ratio q1; subst r1
  unfold bracket_timed_if at hc
  simp only [Bool.and_eq_true] at hc
  obtain ⟨h1, h2⟩ := hc
  refine (btimed_any A0 c0 (ptsL x.1.1) x.2.1.1 x.2.1.2.1 w (i64B_iff h1) (i64B_iff h2) s0).mono ?_
  rintro e w' ⟨rfl, y, rfl⟩
  exact gives_pure hφ (.int _ _) y
end Go.Proofs.Ytkcpnclgcmnlcaa
