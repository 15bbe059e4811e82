/- The reference's Without, Put. -/
import Derived.Test.YtkcpnclgcmnlcaaFld2
import Derived.Test.YtkcpnclgcmnlcaaStep
set_option linter.unusedSimpArgs false
set_option linter.unusedVariables false

namespace Go.Proofs.Ytkcpnclgcmnlcaa
open Go.RowKit Go.Pel
def woB (l : List Pt) (id : Int) : List Pt := l.filter fun p => decide (p.id ≠ id)
theorem woB_snoc_yes {l : List Pt} {id : Int} {k : Nat} {p : Pt} (hp : l[k]? = some p) (h : p.id ≠ id) : woB (l.take (k + 1)) id = woB (l.take k) id ++ [p] := by
  unfold woB; rw [List.take_add_one, hp, List.filter_append]; simp [h]
theorem woB_snoc_no {l : List Pt} {id : Int} {k : Nat} {p : Pt} (hp : l[k]? = some p) (h : p.id = id) : woB (l.take (k + 1)) id = woB (l.take k) id := by
  unfold woB; rw [List.take_add_one, hp, List.filter_append]; simp [h]
theorem woB_len (l : List Pt) (id : Int) (k : Nat) : (woB (l.take k) id).length ≤ k := by
  unfold woB; exact Nat.le_trans (List.length_filter_le _ _) (List.length_take_le _ _)
set_option maxRecDepth 10000 in
set_option maxHeartbeats 2000000 in
theorem without_any (A : Option Addr) (c : Nat) (l : List Pt) (id : Int) (w : World) (hs : Sl w 3 A l.length c (vp l)) (hl : l.length ≤ 1000000) :
    Calls Try.prog 72 #[.agg #[.slice A l.length c], .int .i64 id] w fun e w' => ∃ A' c', e = .returned (.agg #[.slice A' (woB l id).length c']) ∧ ∃ x, w' = ext w x ∧ Own (ext w x) w.heap.size 26 3 A' (woB l id).length c' (vp (woB l id)) := by
  go_enter Try.func72, Try.ntmps72
  go_wp2
  go_loopw [6] (fun i wr => ∃ (k : Nat) (A' : Option Addr) (c' : Nat), k ≤ l.length ∧ i = .int .i64 k ∧ ∃ y, wr = ext (((w.alloc (.cells #[.slice A l.length c] 24)).alloc (.cells #[.slice none 0 0] 24)).alloc (.cells #[.slice A' (woB (l.take k) id).length c'] 24)) y ∧ Own (ext (((w.alloc (.cells #[.slice A l.length c] 24)).alloc (.cells #[.slice none 0 0] 24)).alloc (.cells #[.slice A' (woB (l.take k) id).length c'] 24)) y) (w.heap.size + 3) 26 3 A' (woB (l.take k) id).length c' (vp (woB (l.take k) id))) (fun i _ => l.length - (intOf i).toNat)
  case atStart => exact ⟨0, none, 0, Nat.zero_le _, rfl, nil_ret (Bel.refl _)⟩
  case round =>
    obtain ⟨k, A', c', hk, rfl, y, rfl, hown⟩ := hrel
    have hlen := woB_len l id k
    by_cases hlt : k < l.length
    · obtain ⟨p, hp⟩ : ∃ p, l[k]? = some p := ⟨_, List.getElem?_eq_getElem hlt⟩
      obtain ⟨b, o, rfl, hb⟩ := hs.at_ (by omega)
      obtain ⟨r0, r1, r2⟩ := pt_at hs hp
      have HP := Lib.hid hp; clear hp
      have hi0 : (0 : Int) ≤ (k : Int) := by omega
      have hi1 : (k : Int) < (l.length : Int) := by omega
      by_cases hid : p.id = id
      · have hd : (p.id == id) = true := by simpa using hid
        have hd' : (p.id != id) = false := by simpa using hid
        have HE := Lib.hid (woB_snoc_no HP.out hid)
        clear hid
        go_wp2
        go_roundw
        case rel => exact ⟨k + 1, A', c', by omega, by go_num, by rw [HE.out]; exact ⟨y, rfl, hown⟩⟩
        case measure => (first | (simp [intOf]; done) | (simp [intOf]; omega))
      · have hd : (p.id == id) = false := by simpa using hid
        have hd' : (p.id != id) = true := by simpa using hid
        have HE := Lib.hid (woB_snoc_yes HP.out hid)
        clear hid
        obtain ⟨n, hn⟩ : ∃ n, (woB (l.take k) id).length = n := ⟨_, rfl⟩
        rw [hn] at hown hlen ⊢
        have HN := Lib.hid hn; clear hn
        obtain ⟨xs, hxs⟩ : ∃ xs, vp (woB (l.take k) id) = xs := ⟨_, rfl⟩
        rw [hxs] at hown
        have HX := Lib.hid hxs; clear hxs
        go_wp2
        go_region_law ((refine step_append1 slt_pts (wB := ((w.alloc (.cells #[.slice (some ⟨b, o, none⟩) l.length c] 24)).alloc (.cells #[.slice none 0 0] 24)).alloc (.cells #[.slice A' n c'] 24)) (by (try simp only [ext_ext]); repeat (first | exact Bel.refl _ | assumption | refine bel_and ?_ _ | refine bel_drews ?_ _ | refine Bel.ext ?_ _ | refine Bel.alloc ?_ _ | refine Bel.drewN ?_ _)) (hown.base_le (by simp)) (by (try simp only [ext_ext]); repeat (first | exact Bel.refl _ | assumption | refine bel_and ?_ _ | refine bel_drews ?_ _ | refine Bel.ext ?_ _ | refine Bel.alloc ?_ _ | refine Bel.drewN ?_ _)) (by simp [Value.oneCell']) rfl (by omega) rfl _ _ rfl rfl rfl (by simp [go_sem]) ?_; rintro A2 c2 y2 own2))
        all_goals
          go_wp2
          go_roundw
          case rel =>
            have hz : (woB (l.take (k + 1)) id).length = n + 1 := by rw [HE.out, List.length_append, HN.out]; rfl
            have hx : vp (woB (l.take (k + 1)) id) = xs ++ p.cells := by rw [HE.out, vp_snoc, HX.out]
            refine ⟨k + 1, A2, c2, by omega, by go_num, ?_⟩
            rw [hz, hx]
            exact ⟨y2, rfl, (own_swap (by simp) own2 (by simp)).base_le (by simp)⟩
          case measure => (first | (simp [intOf]; done) | (simp [intOf]; omega))
    · obtain rfl : k = l.length := by omega
      rw [List.take_length] at hown hlen ⊢
      go_wp2
      refine bodyPost_ret (v := .agg #[.slice A' (woB l id).length c']) (by simp [results, Try.results72, go_sem]) rfl ?_
      exact ⟨_, _, rfl, own_ret (by (try simp only [ext_ext]); repeat (first | exact Bel.refl _ | assumption | refine bel_and ?_ _ | refine bel_drews ?_ _ | refine Bel.ext ?_ _ | refine Bel.alloc ?_ _ | refine Bel.drewN ?_ _)) (own_swap (by simp [go_sem]) hown (by simp [go_sem])) (Bel.refl _) (by simp [go_sem])⟩
/-- the reference's Put before its loop's round k: not yet in, or in -/
def puA (l : List Pt) (p : Pt) (k : Nat) : List Pt := if k ≤ lowB l p.id then l.take k else l.take (lowB l p.id) ++ p :: (l.drop (lowB l p.id)).take (k - lowB l p.id)
theorem puA_0 (l : List Pt) (p : Pt) : puA l p 0 = [] := by unfold puA; rw [if_pos (Nat.zero_le _)]; rfl
theorem puA_lt {l : List Pt} {p x : Pt} {k : Nat} (h : k < lowB l p.id) (hx : l[k]? = some x) : puA l p (k + 1) = puA l p k ++ [x] := by
  unfold puA; rw [if_pos (by omega), if_pos (by omega), List.take_add_one, hx]; rfl
theorem puA_eq {l : List Pt} {p x : Pt} {k : Nat} (h : k = lowB l p.id) (hx : l[k]? = some x) : puA l p (k + 1) = puA l p k ++ [p] ++ [x] := by
  unfold puA
  rw [if_neg (by omega), if_pos (by omega), h, show lowB l p.id + 1 - lowB l p.id = 1 by omega, List.take_one]
  rw [List.head?_drop, ← h, hx]; simp
theorem puA_gt {l : List Pt} {p x : Pt} {k : Nat} (h : lowB l p.id < k) (hx : l[k]? = some x) : puA l p (k + 1) = puA l p k ++ [x] := by
  unfold puA
  rw [if_neg (by omega), if_neg (by omega), show k + 1 - lowB l p.id = (k - lowB l p.id) + 1 by omega, List.take_add_one, List.getElem?_drop, show lowB l p.id + (k - lowB l p.id) = k by omega, hx]
  simp
theorem puA_len {l : List Pt} {p : Pt} {k : Nat} (hk : k ≤ l.length) : (puA l p k).length ≤ k + 1 := by
  unfold puA; split
  · have := List.length_take_le k l; omega
  · rename_i h
    have := lowB_le l p.id
    simp only [List.length_append, List.length_take, List.length_cons, List.length_drop]; omega
theorem puA_end_in {l : List Pt} {p : Pt} (h : lowB l p.id < l.length) : puA l p l.length = l.take (lowB l p.id) ++ p :: l.drop (lowB l p.id) := by
  unfold puA; rw [if_neg (by omega), List.take_of_length_le (l := l.drop _) (by simp)]
theorem puA_end_out {l : List Pt} {p : Pt} (h : lowB l p.id = l.length) : puA l p l.length ++ [p] = l.take (lowB l p.id) ++ p :: l.drop (lowB l p.id) := by
  unfold puA; rw [if_pos (by omega), h]; simp
set_option maxRecDepth 10000 in
set_option maxHeartbeats 4000000 in
theorem refPut_ok (A : Option Addr) (c : Nat) (l : List Pt) (p : Pt) (w : World) (hs : Sl w 3 A l.length c (vp l)) (h0 : fieldChk l = 0) (hp0 : p.chk = 0) (hb : hasB l p.id = false) (h64 : l.length ≠ 64) :
    Calls Try.prog 20 #[.agg #[.slice A l.length c], .agg #[.int .i64 p.id, .int .i64 p.a, .int .i64 p.b]] w fun e w' => ∃ A' c', e = .returned (.tuple #[.agg #[.slice A' (l.take (lowB l p.id) ++ p :: l.drop (lowB l p.id)).length c'], .int .i64 0]) ∧ ∃ x, w' = ext w x ∧ Own (ext w x) w.heap.size 26 3 A' (l.take (lowB l p.id) ++ p :: l.drop (lowB l p.id)).length c' (vp (l.take (lowB l p.id) ++ p :: l.drop (lowB l p.id))) := by
  have q := Lib.hid (fun W hb => ref03Check_any A c l W (hs.bel (w' := W) hb))
  rw [h0] at q
  obtain ⟨hl, hchk, hinc⟩ := fieldChk_zero h0
  have e1 := Lib.hid (pchk2_lit p 0 hp0)
  have q2 := Lib.hid (fun W hb => at03_any A c l p.id W (hs.bel (w' := W) hb) (by omega))
  rw [atI_no hb] at q2
  have hz : ((l.length : Int) == 64) = false := by rw [beq_eq_false_iff_ne]; omega
  have hge : ∀ (k : Nat) (x : Pt), lowB l p.id ≤ k → l[k]? = some x → p.id < x.id := by
    intro k x hk hx
    have hlt : lowB l p.id < l.length := by have := (List.getElem?_eq_some_iff.1 hx).1; omega
    obtain ⟨z, hz⟩ : ∃ z, l[lowB l p.id]? = some z := ⟨_, List.getElem?_eq_getElem hlt⟩
    have h1 := lowB_ge hz
    have h2 : z.id ≠ p.id := by
      intro h; rw [hasB_at hinc, hz] at hb; simp [h] at hb
    rcases Nat.lt_or_ge (lowB l p.id) k with h3 | h3
    · have := inc_lt hinc h3 hz hx; omega
    · obtain rfl : k = lowB l p.id := by omega
      rw [hz] at hx; obtain rfl := Option.some.inj hx; omega
  have hlo := lowB_le l p.id
  have HG := Lib.hid hge; have HL := Lib.hid (fun k x hk hx => lowB_lt (l := l) (id := p.id) (i := k) (p := x) hk hx)
  obtain ⟨R, hR⟩ : ∃ R, l.take (lowB l p.id) ++ p :: l.drop (lowB l p.id) = R := ⟨_, rfl⟩
  rw [hR]
  have HR := Lib.hid hR
  clear h0 hp0 hb hchk hinc hge h64 hR
  go_enter Try.func20, Try.ntmps20
  go_wp2_with (first | (go_at_call 26; refine (q.out _ (by (try simp only [ext_ext]); repeat (first | exact Bel.refl _ | assumption | refine bel_and ?_ _ | refine bel_drews ?_ _ | refine Bel.ext ?_ _ | refine Bel.alloc ?_ _ | refine Bel.drewN ?_ _))).mono ?_; rintro e _ ⟨rfl, n1, rfl⟩) | (go_at_call 61; refine (e1.out _).mono ?_; rintro e _ ⟨rfl, n2, rfl⟩) | (go_at_call 66; refine (q2.out _ (by (try simp only [ext_ext]); repeat (first | exact Bel.refl _ | assumption | refine bel_and ?_ _ | refine bel_drews ?_ _ | refine Bel.ext ?_ _ | refine Bel.alloc ?_ _ | refine Bel.drewN ?_ _))).mono ?_; rintro e _ ⟨rfl, n3, rfl⟩))
  go_loopw [8, 9] (fun b i wr => ∃ (k : Nat) (A' : Option Addr) (c' : Nat), k ≤ l.length ∧ b = .bool (decide (lowB l p.id < k)) ∧ i = .int .i64 k ∧ ∃ y, wr = ext ((ext (((w.alloc (.cells #[.slice A l.length c] 24)).alloc (.cells #[.int .i64 p.id, .int .i64 p.a, .int .i64 p.b] 26)).alloc (.cells #[.slice none 0 0] 24)) ((n1.and n2).and n3)).alloc (.cells #[.slice A' (puA l p k).length c'] 24)) y ∧ Own (ext ((ext (((w.alloc (.cells #[.slice A l.length c] 24)).alloc (.cells #[.int .i64 p.id, .int .i64 p.a, .int .i64 p.b] 26)).alloc (.cells #[.slice none 0 0] 24)) ((n1.and n2).and n3)).alloc (.cells #[.slice A' (puA l p k).length c'] 24)) y) (w.heap.size + 1 + 1 + 1 + n1.len + n2.len + n3.len + 1) 26 3 A' (puA l p k).length c' (vp (puA l p k))) (fun _ i _ => l.length - (intOf i).toNat)
  case atStart => exact ⟨0, none, 0, Nat.zero_le _, rfl, rfl, by rw [puA_0]; exact nil_ret (Bel.refl _)⟩
  case round =>
    obtain ⟨k, A', c', hk, rfl, rfl, y, rfl, hown⟩ := hrel
    have hlen := puA_len (p := p) hk
    by_cases hlt : k < l.length
    · obtain ⟨x, hx⟩ : ∃ x, l[k]? = some x := ⟨_, List.getElem?_eq_getElem hlt⟩
      obtain ⟨b, o, rfl, hb⟩ := hs.at_ (by omega)
      obtain ⟨r0, r1, r2⟩ := pt_at hs hx
      have HX := Lib.hid hx; clear hx
      have hi0 : (0 : Int) ≤ (k : Int) := by omega
      have hi1 : (k : Int) < (l.length : Int) := by omega
      obtain ⟨n, hn⟩ : ∃ n, (puA l p k).length = n := ⟨_, rfl⟩
      rw [hn] at hown hlen ⊢
      have HN := Lib.hid hn; clear hn
      obtain ⟨xs, hxs⟩ : ∃ xs, vp (puA l p k) = xs := ⟨_, rfl⟩
      rw [hxs] at hown
      have HXS := Lib.hid hxs; clear hxs
      rcases Nat.lt_trichotomy k (lowB l p.id) with h | h | h
      · have hd : ¬ p.id < x.id := by have := HL.out k x h HX.out; omega
        have hdec : decide (lowB l p.id < k) = false := by rw [decide_eq_false_iff_not]; omega
        have HD : Hid (decide (lowB l p.id < k + 1) = false) := Lib.hid (by rw [decide_eq_false_iff_not]; omega)
        have HE := Lib.hid (puA_lt h HX.out)
        rw [hdec]
        clear h hdec
        go_wp2
        ((first | refine RegC.wp_region_ext1 (by kernel_rfl) (by kernel_rfl) ?_ | refine RegC.wp_region_ext0 (by kernel_rfl) (by kernel_rfl) ?_); (repeat (any_goals (first | go_big_quiet_step (fail) | (refine RegC.wpQuiet_split rfl rfl (fun hb => ?_) (fun hb => ?_) <;> simp only [hb])))); all_goals (refine wpQuiet_nil ?_; rintro _ ⟨nq, rfl⟩))
        go_wp2
        go_region_law ((refine step_append1 slt_pts (wB := ((ext (((w.alloc (.cells #[.slice (some ⟨b, o, none⟩) l.length c] 24)).alloc (.cells #[.int .i64 p.id, .int .i64 p.a, .int .i64 p.b] 26)).alloc (.cells #[.slice none 0 0] 24)) ((n1.and n2).and n3)).alloc (.cells #[.slice A' n c'] 24))) (by (try simp only [ext_ext]); repeat (first | exact Bel.refl _ | assumption | refine bel_and ?_ _ | refine bel_drews ?_ _ | refine Bel.ext ?_ _ | refine Bel.alloc ?_ _ | refine Bel.drewN ?_ _)) (hown.base_le (by simp [go_sem])) (by (try simp only [ext_ext]); repeat (first | exact Bel.refl _ | assumption | refine bel_and ?_ _ | refine bel_drews ?_ _ | refine Bel.ext ?_ _ | refine Bel.alloc ?_ _ | refine Bel.drewN ?_ _)) (by simp [Value.oneCell']) rfl (by omega) rfl _ _ rfl rfl rfl (by simp [go_sem]) ?_; rintro A2 c2 y2 own2))
        all_goals
          go_wp2
          go_roundw
          case rel =>
            have hz : (puA l p (k + 1)).length = n + 1 := by rw [HE.out, List.length_append, HN.out]; rfl
            have hx : vp (puA l p (k + 1)) = xs ++ x.cells := by rw [HE.out, vp_snoc, HXS.out]
            refine ⟨k + 1, A2, c2, by omega, by rw [HD.out], by go_num, ?_⟩
            rw [hz, hx]
            exact ⟨y2, rfl, (own_swap (by simp) own2 (by simp)).base_le (by simp [go_sem])⟩
          case measure => (first | (simp [intOf]; done) | (simp [intOf]; omega))
      · have hd : p.id < x.id := HG.out k x (by omega) HX.out
        have hdec : decide (lowB l p.id < k) = false := by rw [decide_eq_false_iff_not]; omega
        have HD : Hid (decide (lowB l p.id < k + 1) = true) := Lib.hid (by rw [decide_eq_true_eq]; omega)
        have HE := Lib.hid (puA_eq h HX.out)
        rw [hdec]
        clear h hdec
        go_wp2
        ((first | refine RegC.wp_region_ext1 (by kernel_rfl) (by kernel_rfl) ?_ | refine RegC.wp_region_ext0 (by kernel_rfl) (by kernel_rfl) ?_); (repeat (any_goals (first | go_big_quiet_step (fail) | (refine RegC.wpQuiet_split rfl rfl (fun hb => ?_) (fun hb => ?_) <;> simp only [hb])))); all_goals (refine wpQuiet_nil ?_; rintro _ ⟨nq, rfl⟩))
        go_wp2_with (at_builtin; refine append1_ext slt_pts (wB := ((ext (((w.alloc (.cells #[.slice (some ⟨b, o, none⟩) l.length c] 24)).alloc (.cells #[.int .i64 p.id, .int .i64 p.a, .int .i64 p.b] 26)).alloc (.cells #[.slice none 0 0] 24)) ((n1.and n2).and n3)).alloc (.cells #[.slice A' n c'] 24))) (by (try simp only [ext_ext]); repeat (first | exact Bel.refl _ | assumption | refine bel_and ?_ _ | refine bel_drews ?_ _ | refine Bel.ext ?_ _ | refine Bel.alloc ?_ _ | refine Bel.drewN ?_ _)) (hown.base_le (by simp [go_sem])) (by (try simp only [ext_ext]); repeat (first | exact Bel.refl _ | assumption | refine bel_and ?_ _ | refine bel_drews ?_ _ | refine Bel.ext ?_ _ | refine Bel.alloc ?_ _ | refine Bel.drewN ?_ _)) (by simp [Value.oneCell']) rfl (by omega) rfl _ _ rfl rfl rfl (by simp [go_sem]) ?_; rintro A2 c2 y2 own2)
        have own2' := own_swap (V' := ((ext (((w.alloc (.cells #[.slice (some ⟨b, o, none⟩) l.length c] 24)).alloc (.cells #[.int .i64 p.id, .int .i64 p.a, .int .i64 p.b] 26)).alloc (.cells #[.slice none 0 0] 24)) ((n1.and n2).and n3)).alloc (.cells #[.slice A2 (n + 1) c2] 24))) (by simp) own2 (by simp [go_sem])
        go_region_law ((refine step_append1 slt_pts (wB := ((ext (((w.alloc (.cells #[.slice (some ⟨b, o, none⟩) l.length c] 24)).alloc (.cells #[.int .i64 p.id, .int .i64 p.a, .int .i64 p.b] 26)).alloc (.cells #[.slice none 0 0] 24)) ((n1.and n2).and n3)).alloc (.cells #[.slice A2 (n + 1) c2] 24))) (by (try simp only [ext_ext]); repeat (first | exact Bel.refl _ | assumption | refine bel_and ?_ _ | refine bel_drews ?_ _ | refine Bel.ext ?_ _ | refine Bel.alloc ?_ _ | refine Bel.drewN ?_ _)) (own2'.base_le (by simp [go_sem])) (by (try simp only [ext_ext]); repeat (first | exact Bel.refl _ | assumption | refine bel_and ?_ _ | refine bel_drews ?_ _ | refine Bel.ext ?_ _ | refine Bel.alloc ?_ _ | refine Bel.drewN ?_ _)) (by simp [Value.oneCell']) rfl (by omega) rfl _ _ rfl rfl rfl (by simp [go_sem]) ?_; rintro A3 c3 y3 own3))
        all_goals
          go_wp2
          go_roundw
          case rel =>
            have hz : (puA l p (k + 1)).length = n + 1 + 1 := by rw [HE.out, List.length_append, List.length_append, HN.out]; rfl
            have hx : vp (puA l p (k + 1)) = xs ++ p.cells ++ x.cells := by rw [HE.out, vp_snoc, vp_snoc, HXS.out]
            refine ⟨k + 1, A3, c3, by omega, by rw [HD.out], by go_num, ?_⟩
            rw [hz, hx]
            exact ⟨y3, rfl, (own_swap (by simp) own3 (by simp)).base_le (by simp [go_sem])⟩
          case measure => (first | (simp [intOf]; done) | (simp [intOf]; omega))
      · have hdec : decide (lowB l p.id < k) = true := by rw [decide_eq_true_eq]; omega
        have HD : Hid (decide (lowB l p.id < k + 1) = true) := Lib.hid (by rw [decide_eq_true_eq]; omega)
        have HE := Lib.hid (puA_gt h HX.out)
        rw [hdec]
        clear h hdec
        go_wp2
        ((first | refine RegC.wp_region_ext1 (by kernel_rfl) (by kernel_rfl) ?_ | refine RegC.wp_region_ext0 (by kernel_rfl) (by kernel_rfl) ?_); (repeat (any_goals (first | go_big_quiet_step (fail) | (refine RegC.wpQuiet_split rfl rfl (fun hb => ?_) (fun hb => ?_) <;> simp only [hb])))); all_goals (refine wpQuiet_nil ?_; rintro _ ⟨nq, rfl⟩))
        go_wp2
        go_region_law ((refine step_append1 slt_pts (wB := ((ext (((w.alloc (.cells #[.slice (some ⟨b, o, none⟩) l.length c] 24)).alloc (.cells #[.int .i64 p.id, .int .i64 p.a, .int .i64 p.b] 26)).alloc (.cells #[.slice none 0 0] 24)) ((n1.and n2).and n3)).alloc (.cells #[.slice A' n c'] 24))) (by (try simp only [ext_ext]); repeat (first | exact Bel.refl _ | assumption | refine bel_and ?_ _ | refine bel_drews ?_ _ | refine Bel.ext ?_ _ | refine Bel.alloc ?_ _ | refine Bel.drewN ?_ _)) (hown.base_le (by simp [go_sem])) (by (try simp only [ext_ext]); repeat (first | exact Bel.refl _ | assumption | refine bel_and ?_ _ | refine bel_drews ?_ _ | refine Bel.ext ?_ _ | refine Bel.alloc ?_ _ | refine Bel.drewN ?_ _)) (by simp [Value.oneCell']) rfl (by omega) rfl _ _ rfl rfl rfl (by simp [go_sem]) ?_; rintro A2 c2 y2 own2))
        all_goals
          go_wp2
          go_roundw
          case rel =>
            have hz : (puA l p (k + 1)).length = n + 1 := by rw [HE.out, List.length_append, HN.out]; rfl
            have hx : vp (puA l p (k + 1)) = xs ++ x.cells := by rw [HE.out, vp_snoc, HXS.out]
            refine ⟨k + 1, A2, c2, by omega, by rw [HD.out], by go_num, ?_⟩
            rw [hz, hx]
            exact ⟨y2, rfl, (own_swap (by simp) own2 (by simp)).base_le (by simp [go_sem])⟩
          case measure => (first | (simp [intOf]; done) | (simp [intOf]; omega))
    · obtain rfl : k = l.length := by omega
      by_cases h : lowB l p.id < l.length
      · have hdec : decide (lowB l p.id < l.length) = true := decide_eq_true h
        have HE := (puA_end_in h).trans HR.out
        rw [HE] at hown hlen ⊢
        rw [hdec]
        clear h hdec HE
        go_wp2
        refine bodyPost_ret (v := .tuple #[.agg #[.slice A' R.length c'], .int .i64 0]) (by simp [results, Try.results20, go_sem]) rfl ?_
        exact ⟨_, _, rfl, own_ret (by (try simp only [ext_ext]); repeat (first | exact Bel.refl _ | assumption | refine bel_and ?_ _ | refine bel_drews ?_ _ | refine Bel.ext ?_ _ | refine Bel.alloc ?_ _ | refine Bel.drewN ?_ _)) (own_swap (by simp) hown (by simp [go_sem])) (Bel.refl _) (by simp [go_sem]; try omega)⟩
      · have hdec : decide (lowB l p.id < l.length) = false := decide_eq_false h
        have HE := (puA_end_out (l := l) (p := p) (by omega)).trans HR.out
        have hRl : R.length = (puA l p l.length).length + 1 := by rw [← HE]; simp
        have hRv : vp R = vp (puA l p l.length) ++ p.cells := by rw [← HE, vp_snoc]
        rw [hdec]
        obtain ⟨n, hn⟩ : ∃ n, (puA l p l.length).length = n := ⟨_, rfl⟩
        rw [hn] at hown hlen hRl ⊢
        have HRL := Lib.hid hRl
        have HRV := Lib.hid hRv
        clear h hdec HE hn hRl hRv
        go_wp2_with (at_builtin; refine append1_ext slt_pts (wB := ((ext (((w.alloc (.cells #[.slice A l.length c] 24)).alloc (.cells #[.int .i64 p.id, .int .i64 p.a, .int .i64 p.b] 26)).alloc (.cells #[.slice none 0 0] 24)) ((n1.and n2).and n3)).alloc (.cells #[.slice A' n c'] 24))) (by (try simp only [ext_ext]); repeat (first | exact Bel.refl _ | assumption | refine bel_and ?_ _ | refine bel_drews ?_ _ | refine Bel.ext ?_ _ | refine Bel.alloc ?_ _ | refine Bel.drewN ?_ _)) (hown.base_le (by simp [go_sem])) (by (try simp only [ext_ext]); repeat (first | exact Bel.refl _ | assumption | refine bel_and ?_ _ | refine bel_drews ?_ _ | refine Bel.ext ?_ _ | refine Bel.alloc ?_ _ | refine Bel.drewN ?_ _)) (by simp [Value.oneCell']) rfl (by omega) rfl _ _ rfl rfl rfl (by simp [go_sem]) ?_; rintro A2 c2 y2 own2)
        refine bodyPost_ret (v := .tuple #[.agg #[.slice A2 (n + 1) c2], .int .i64 0]) (by simp [results, Try.results20, go_sem]) rfl ?_
        rw [HRL.out, HRV.out]
        exact ⟨_, _, rfl, own_ret (by (try simp only [ext_ext]); repeat (first | exact Bel.refl _ | assumption | refine bel_and ?_ _ | refine bel_drews ?_ _ | refine Bel.ext ?_ _ | refine Bel.alloc ?_ _ | refine Bel.drewN ?_ _)) (own_swap (by simp) own2 (by simp [go_sem])) (Bel.refl _) (by simp [go_sem]; try omega)⟩
end Go.Proofs.Ytkcpnclgcmnlcaa
