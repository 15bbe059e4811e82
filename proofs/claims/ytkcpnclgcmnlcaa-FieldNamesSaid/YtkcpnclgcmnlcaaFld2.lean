/- The reference's Check, At, Great, Twin, Same. -/
import Derived.Test.YtkcpnclgcmnlcaaFld1
set_option linter.unusedSimpArgs false
set_option linter.unusedVariables false
namespace Go.Proofs.Ytkcpnclgcmnlcaa
open Go.RowKit Go.Pel
theorem slt_pts : SlT Try.prog 22 26 (.agg #[.int .i64 0, .int .i64 0, .int .i64 0]) 3 24 := ⟨by kernel_rfl, by kernel_rfl, by kernel_rfl, by decide, by decide⟩
/-- two points are the same -/
def eqP (i a b i' a' b' : Int) : Bool := decide (i = i' ∧ a = a' ∧ b = b')
theorem eqP_yes (p : Pt) : eqP p.id p.a p.b p.id p.a p.b = true := by simp [eqP]
theorem eqP_no {p q : Pt} (h : ¬ p = q) : eqP p.id p.a p.b q.id q.a q.b = false := by
  unfold eqP; rw [decide_eq_false_iff_not]; rintro ⟨h1, h2, h3⟩; exact h (by cases p; cases q; simp at *; exact ⟨h1, h2, h3⟩)
theorem equal_pt (i a b i' a' b' : Int) (w : World) : (Op.equalIn 10000 26 (.agg #[.int .i64 i, .int .i64 a, .int .i64 b]) (.agg #[.int .i64 i', .int .i64 a', .int .i64 b'])).run Try.prog w = .ok (eqP i a b i' a' b') w := by
  simp [go_sem]
  unfold eqP
  by_cases h1 : i = i' <;> by_cases h2 : a = a' <;> by_cases h3 : b = b' <;> simp [h1, h2, h3]
attribute [local go_sem ↓] equal_pt
set_option maxRecDepth 10000 in
set_option maxHeartbeats 2000000 in
theorem ref03Check_any (A : Option Addr) (c : Nat) (l : List Pt) (w : World) (hs : Sl w 3 A l.length c (vp l)) :
    Calls Try.prog 26 #[.agg #[.slice A l.length c]] w fun e w' => e = .returned (.int .i64 (fieldChk l)) ∧ ∃ x, w' = ext w x := by
  by_cases hm : 64 < l.length
  · have E1 := Lib.hid (fieldChk_many hm)
    go_enter Try.func26, Try.ntmps26
    go_wp2
    (go_ret; exact ⟨ret_int (by exact E1.out.symm), ext_of (by (try simp only [ext_ext]); repeat (first | exact Bel.refl _ | assumption | refine bel_and ?_ _ | refine bel_drews ?_ _ | refine Bel.ext ?_ _ | refine Bel.alloc ?_ _ | refine Bel.drewN ?_ _))⟩)
  · have E1 := Lib.hid (fun p (hp : p ∈ l) hc => fieldChk_bad (l := l) (by omega) hp hc)
    have E2 := Lib.hid (fieldChk_order (l := l) (by omega))
    have E3 := Lib.hid (fieldChk_ok (l := l) (by omega))
    go_enter Try.func26, Try.ntmps26
    go_wp2
    go_loopw [3] (fun i wr => ∃ (k : Nat), k ≤ l.length ∧ i = .int .i64 k ∧ (∀ p ∈ l.take k, p.chk = 0) ∧ ∃ y, wr = ext (w.alloc (.cells #[.slice A l.length c] 24)) y) (fun i _ => l.length - (intOf i).toNat)
    case atStart => exact ⟨0, Nat.zero_le _, rfl, by simp, ext_of (Bel.refl _)⟩
    case round =>
      obtain ⟨k, hk, rfl, hall, y, rfl⟩ := hrel
      have HA := Lib.hid hall; clear hall
      by_cases hlt : k < l.length
      · obtain ⟨p, hp⟩ : ∃ p, l[k]? = some p := ⟨_, List.getElem?_eq_getElem hlt⟩
        obtain ⟨b, o, rfl, hb⟩ := hs.at_ (by omega)
        obtain ⟨r0, r1, r2⟩ := pt_at hs hp
        have HP := Lib.hid hp; clear hp
        rcases pt_cases p with h | h
        · have e1 := Lib.hid (pchk2_lit p 0 h)
          have HC := Lib.hid h; clear h
          go_wp2_with ((go_at_call 61; refine (e1.out _).mono ?_; rintro e _ ⟨rfl, nx, rfl⟩))
          go_roundw
          case rel =>
            refine ⟨k + 1, by omega, by go_num, ?_, ext_of (by (try simp only [ext_ext]); repeat (first | exact Bel.refl _ | assumption | refine bel_and ?_ _ | refine bel_drews ?_ _ | refine Bel.ext ?_ _ | refine Bel.alloc ?_ _ | refine Bel.drewN ?_ _))⟩
            intro q hq
            rw [List.take_add_one, HP.out] at hq
            rcases List.mem_append.1 hq with hq | hq
            · exact HA.out q hq
            · simp at hq; subst hq; exact HC.out
          case measure => (first | (simp [intOf]; done) | (simp [intOf]; omega))
        · have e1 := Lib.hid (pchk2_lit p 8 h)
          have HC := Lib.hid (E1.out p (List.mem_of_getElem? HP.out) (by rw [h]; decide)); clear h
          go_wp2_with ((go_at_call 61; refine (e1.out _).mono ?_; rintro e _ ⟨rfl, nx, rfl⟩))
          (go_ret; exact ⟨ret_int (by exact HC.out.symm), ext_of (by (try simp only [ext_ext]); repeat (first | exact Bel.refl _ | assumption | refine bel_and ?_ _ | refine bel_drews ?_ _ | refine Bel.ext ?_ _ | refine Bel.alloc ?_ _ | refine Bel.drewN ?_ _))⟩)
      · obtain rfl : k = l.length := by omega
        have hc0 := HA.out
        rw [List.take_length] at hc0
        have HC := Lib.hid hc0; clear hc0
        go_wp2
        go_loopw [4] (fun i wr => ∃ (k : Nat), k ≤ l.length + 1 ∧ i = .int .i64 (k + 1) ∧ (∀ (i : Nat) (p q : Pt), i + 1 < k + 1 → l[i]? = some p → l[i + 1]? = some q → p.id < q.id) ∧ ∃ y, wr = ext (w.alloc (.cells #[.slice A l.length c] 24)) y) (fun i _ => l.length + 2 - (intOf i).toNat)
        case atStart => exact ⟨0, by omega, rfl, (by intro i p q h; omega), y, rfl⟩
        case round =>
          clear hk hlt HA
          obtain ⟨m, hk, rfl, hall, y2, rfl⟩ := hrel
          have HA := Lib.hid hall; clear hall
          by_cases hlt : m + 1 < l.length
          · obtain ⟨p, hp⟩ : ∃ p, l[m + 1]? = some p := ⟨_, List.getElem?_eq_getElem hlt⟩
            obtain ⟨b, o, rfl, hb⟩ := hs.at_ (by omega)
            obtain ⟨r0, r1, r2⟩ := pt_at hs hp
            have HP := Lib.hid hp; clear hp
            obtain ⟨q, hq⟩ : ∃ q, l[m]? = some q := ⟨_, List.getElem?_eq_getElem (by omega)⟩
            obtain ⟨q0, q1, q2⟩ := pt_at hs hq
            have HQ := Lib.hid hq; clear hq
            have hi0 : (0 : Int) ≤ (m : Int) := by omega
            have hi1 : (m : Int) < (l.length : Int) := by omega
            have hi2 : (m : Int) + 1 < (l.length : Int) := by omega
            by_cases hid : q.id < p.id
            · have hd : ¬ p.id ≤ q.id := by omega
              go_wp2
              ((first | refine RegC.wp_region_ext1 (by kernel_rfl) (by kernel_rfl) ?_ | refine RegC.wp_region_ext0 (by kernel_rfl) (by kernel_rfl) ?_); (repeat (any_goals (first | go_big_quiet_step (fail) | (refine RegC.wpQuiet_split rfl rfl (fun hb => ?_) (fun hb => ?_) <;> simp only [hb])))); all_goals (refine wpQuiet_nil ?_; rintro _ ⟨nq, rfl⟩))
              go_wp2
              go_roundw
              case rel =>
                refine ⟨m + 1, by omega, by go_num, ?_, ext_of (by (try simp only [ext_ext]); repeat (first | exact Bel.refl _ | assumption | refine bel_and ?_ _ | refine bel_drews ?_ _ | refine Bel.ext ?_ _ | refine Bel.alloc ?_ _ | refine Bel.drewN ?_ _))⟩
                intro i p' q' hi hp' hq'
                rcases Nat.lt_or_ge (i + 1) (m + 1) with h | h
                · exact HA.out i p' q' h hp' hq'
                · obtain rfl : i = m := by omega
                  rw [HQ.out] at hp'
                  rw [HP.out] at hq'
                  obtain rfl := Option.some.inj hp'
                  obtain rfl := Option.some.inj hq'
                  exact hid
              case measure => (first | (simp [intOf]; done) | (simp [intOf]; omega))
            · have hd : p.id ≤ q.id := by omega
              have hbad : incB l = false := by
                rw [← Bool.not_eq_true, incB_iff]; intro h; exact hid (h m q p HQ.out HP.out)
              have HB := Lib.hid (E2.out HC.out hbad); clear hbad
              go_wp2
              ((first | refine RegC.wp_region_ext1 (by kernel_rfl) (by kernel_rfl) ?_ | refine RegC.wp_region_ext0 (by kernel_rfl) (by kernel_rfl) ?_); (repeat (any_goals (first | go_big_quiet_step (fail) | (refine RegC.wpQuiet_split rfl rfl (fun hb => ?_) (fun hb => ?_) <;> simp only [hb])))); all_goals (refine wpQuiet_nil ?_; rintro _ ⟨nq, rfl⟩))
              go_wp2
              (go_ret; exact ⟨ret_int (by exact HB.out.symm), ext_of (by (try simp only [ext_ext]); repeat (first | exact Bel.refl _ | assumption | refine bel_and ?_ _ | refine bel_drews ?_ _ | refine Bel.ext ?_ _ | refine Bel.alloc ?_ _ | refine Bel.drewN ?_ _))⟩)
          · have hlt2 : ¬ (m : Int) + 1 < (l.length : Int) := by omega
            have hinc : incB l = true := (incB_iff l).2 fun i p q hp hq => HA.out i p q (by have := (List.getElem?_eq_some_iff.1 hq).1; omega) hp hq
            have HB := Lib.hid (E3.out HC.out hinc); clear hinc
            go_wp2
            (go_ret; exact ⟨ret_int (by exact HB.out.symm), ext_of (by (try simp only [ext_ext]); repeat (first | exact Bel.refl _ | assumption | refine bel_and ?_ _ | refine bel_drews ?_ _ | refine Bel.ext ?_ _ | refine Bel.alloc ?_ _ | refine Bel.drewN ?_ _))⟩)
set_option maxRecDepth 10000 in
set_option maxHeartbeats 2000000 in
theorem at03_any (A : Option Addr) (c : Nat) (l : List Pt) (id : Int) (w : World) (hs : Sl w 3 A l.length c (vp l)) (hl : l.length ≤ 1000000) :
    Calls Try.prog 66 #[.agg #[.slice A l.length c], .int .i64 id] w fun e w' => e = .returned (.int .i64 (atI l id)) ∧ ∃ x, w' = ext w x := by
  go_enter Try.func66, Try.ntmps66
  go_wp2
  go_loopw [5] (fun i wr => ∃ (k : Nat), k ≤ l.length ∧ i = .int .i64 k ∧ (∀ (i : Nat) (p : Pt), i < k → l[i]? = some p → p.id ≠ id) ∧ ∃ y, wr = ext (w.alloc (.cells #[.slice A l.length c] 24)) y) (fun i _ => l.length - (intOf i).toNat)
  case atStart => exact ⟨0, Nat.zero_le _, rfl, (by intro i p h; omega), ext_of (Bel.refl _)⟩
  case round =>
    obtain ⟨k, hk, rfl, hall, y, rfl⟩ := hrel
    have HA := Lib.hid hall; clear hall
    by_cases hlt : k < l.length
    · obtain ⟨p, hp⟩ : ∃ p, l[k]? = some p := ⟨_, List.getElem?_eq_getElem hlt⟩
      obtain ⟨b, o, rfl, hb⟩ := hs.at_ (by omega)
      obtain ⟨r0, r1, r2⟩ := pt_at hs hp
      have HP := Lib.hid hp; clear hp
      by_cases hid : p.id = id
      · have hd : (p.id == id) = true := by simpa using hid
        have HB := Lib.hid (atI_of HA.out HP.out hid)
        clear hid
        go_wp2
        (go_ret; exact ⟨ret_int (by exact HB.out.symm), ext_of (by (try simp only [ext_ext]); repeat (first | exact Bel.refl _ | assumption | refine bel_and ?_ _ | refine bel_drews ?_ _ | refine Bel.ext ?_ _ | refine Bel.alloc ?_ _ | refine Bel.drewN ?_ _))⟩)
      · have hd : (p.id == id) = false := by simpa using hid
        have HD := Lib.hid hid; clear hid
        go_wp2
        go_roundw
        case rel =>
          refine ⟨k + 1, by omega, by go_num, ?_, ext_of (by (try simp only [ext_ext]); repeat (first | exact Bel.refl _ | assumption | refine bel_and ?_ _ | refine bel_drews ?_ _ | refine Bel.ext ?_ _ | refine Bel.alloc ?_ _ | refine Bel.drewN ?_ _))⟩
          intro i q hi hq
          rcases Nat.lt_or_ge i k with h | h
          · exact HA.out i q h hq
          · obtain rfl : i = k := by omega
            rw [HP.out] at hq
            obtain rfl := Option.some.inj hq
            exact HD.out
        case measure => (first | (simp [intOf]; done) | (simp [intOf]; omega))
    · obtain rfl : k = l.length := by omega
      have HB := Lib.hid (atI_no (hasB_no (id := id) fun i p hp => HA.out i p (List.getElem?_eq_some_iff.1 hp).1 hp))
      go_wp2
      (go_ret; exact ⟨ret_int (by exact HB.out.symm), ext_of (by (try simp only [ext_ext]); repeat (first | exact Bel.refl _ | assumption | refine bel_and ?_ _ | refine bel_drews ?_ _ | refine Bel.ext ?_ _ | refine Bel.alloc ?_ _ | refine Bel.drewN ?_ _))⟩)
/-- at most 16, or from 64 to 70 -/
def great (n : Nat) : Bool := (decide (16 < n) && decide (n < 64)) || decide (70 < n)
set_option maxHeartbeats 400000 in
theorem great_any (A : Option Addr) (n c : Nat) (w : World) : Calls Try.prog 15 #[.agg #[.slice A n c]] w fun e w' => e = .returned (.bool (great n)) ∧ ∃ x, w' = ext w x := by
  by_cases h1 : 16 < n
  · by_cases h2 : n < 64
    · have H := Lib.hid (show great n = true by unfold great; simp [h1, h2])
      go_enter Try.func15, Try.ntmps15
      go_wp2
      (go_ret; exact ⟨ret_bool (by first | exact H.out.symm | (rw [H.out]; simp; omega)), ext_of (by (try simp only [ext_ext]); repeat (first | exact Bel.refl _ | assumption | refine bel_and ?_ _ | refine bel_drews ?_ _ | refine Bel.ext ?_ _ | refine Bel.alloc ?_ _ | refine Bel.drewN ?_ _))⟩)
    · by_cases h3 : 70 < n
      · have H := Lib.hid (show great n = true by unfold great; simp [h3])
        go_enter Try.func15, Try.ntmps15
        go_wp2
        (go_ret; exact ⟨ret_bool (by first | exact H.out.symm | (rw [H.out]; simp; omega)), ext_of (by (try simp only [ext_ext]); repeat (first | exact Bel.refl _ | assumption | refine bel_and ?_ _ | refine bel_drews ?_ _ | refine Bel.ext ?_ _ | refine Bel.alloc ?_ _ | refine Bel.drewN ?_ _))⟩)
      · have H := Lib.hid (show great n = false by unfold great; simp [h2, h3])
        go_enter Try.func15, Try.ntmps15
        go_wp2
        (go_ret; exact ⟨ret_bool (by first | exact H.out.symm | (rw [H.out]; simp; omega)), ext_of (by (try simp only [ext_ext]); repeat (first | exact Bel.refl _ | assumption | refine bel_and ?_ _ | refine bel_drews ?_ _ | refine Bel.ext ?_ _ | refine Bel.alloc ?_ _ | refine Bel.drewN ?_ _))⟩)
  · have h3 : ¬ 70 < n := by omega
    have H := Lib.hid (show great n = false by unfold great; simp [h1, h3])
    go_enter Try.func15, Try.ntmps15
    go_wp2
    (go_ret; exact ⟨ret_bool (by first | exact H.out.symm | (rw [H.out]; simp; omega)), ext_of (by (try simp only [ext_ext]); repeat (first | exact Bel.refl _ | assumption | refine bel_and ?_ _ | refine bel_drews ?_ _ | refine Bel.ext ?_ _ | refine Bel.alloc ?_ _ | refine Bel.drewN ?_ _))⟩)
set_option maxHeartbeats 400000 in
theorem twin_any (A : Option Addr) (c : Nat) (l : List Pt) (w : World) (hs : Sl w 3 A l.length c (vp l)) (hn : A = none → c = 0) (hl : l.length ≤ 1000000) :
    Calls Try.prog 16 #[.agg #[.slice A l.length c]] w fun e w' => ∃ A' c', e = .returned (.agg #[.slice A' l.length c']) ∧ ∃ x, w' = ext w x ∧ Own (ext w x) w.heap.size 26 3 A' l.length c' (vp l) := by
  go_enter Try.func16, Try.ntmps16
  go_wp2_with ((at_builtin; (try refine wpList_unguard rfl (by first | rfl | simp [yielded]) ?_); refine append_new slt_pts (by (try simp only [ext_ext]); repeat (first | exact Bel.refl _ | assumption | refine bel_and ?_ _ | refine bel_drews ?_ _ | refine Bel.ext ?_ _ | refine Bel.alloc ?_ _ | refine Bel.drewN ?_ _)) (hs) (by (try simp only [ext_ext]); repeat (first | exact Bel.refl _ | assumption | refine bel_and ?_ _ | refine bel_drews ?_ _ | refine Bel.ext ?_ _ | refine Bel.alloc ?_ _ | refine Bel.drewN ?_ _)) (vp_one _) (hn) (by omega) rfl _ _ rfl rfl rfl (by simp [go_sem]) ?_; rintro A1 c1 y1 hown1))
  refine bodyPost_ret (v := .agg #[.slice A1 l.length c1]) (by simp [results, Try.results16, go_sem]) rfl ?_
  exact ⟨_, _, rfl, own_ret (by (try simp only [ext_ext]); repeat (first | exact Bel.refl _ | assumption | refine bel_and ?_ _ | refine bel_drews ?_ _ | refine Bel.ext ?_ _ | refine Bel.alloc ?_ _ | refine Bel.drewN ?_ _)) (own_swap (by simp [go_sem]) hown1 (by simp [go_sem])) (Bel.refl _) (by simp [go_sem])⟩
set_option maxRecDepth 10000 in
set_option maxHeartbeats 2000000 in
theorem same03_any (A B : Option Addr) (c d : Nat) (l m : List Pt) (w : World) (hs : Sl w 3 A l.length c (vp l)) (ht : Sl w 3 B m.length d (vp m)) (hl : l.length ≤ 1000000) (hm : m.length ≤ 1000000) :
    Calls Try.prog 27 #[.agg #[.slice A l.length c], .agg #[.slice B m.length d]] w fun e w' => e = .returned (.bool (decide (l = m))) ∧ ∃ x, w' = ext w x := by
  by_cases hn : l.length = m.length
  · have z0 : ((l.length : Int) == (m.length : Int)) = true := by rw [beq_iff_eq]; omega
    have HN := Lib.hid hn
    have hle1 : l.length ≤ m.length := by omega
    have hle2 : m.length ≤ l.length := by omega
    clear hn
    go_enter Try.func27, Try.ntmps27
    go_wp2
    go_loopw [5] (fun i wr => ∃ (k : Nat), k ≤ l.length ∧ i = .int .i64 k ∧ l.take k = m.take k ∧ ∃ y, wr = ext ((w.alloc (.cells #[.slice A l.length c] 24)).alloc (.cells #[.slice B m.length d] 24)) y) (fun i _ => l.length - (intOf i).toNat)
    case atStart => exact ⟨0, Nat.zero_le _, rfl, rfl, ext_of (Bel.refl _)⟩
    case round =>
      obtain ⟨k, hk, rfl, hgo, y, rfl⟩ := hrel
      have HG := Lib.hid hgo; clear hgo
      by_cases hlt : k < l.length
      · obtain ⟨x, hx⟩ : ∃ x, l[k]? = some x := ⟨_, List.getElem?_eq_getElem hlt⟩
        obtain ⟨x', hx'⟩ : ∃ x, m[k]? = some x := ⟨_, List.getElem?_eq_getElem (by omega)⟩
        obtain ⟨b, o, rfl, hb⟩ := hs.at_ (by omega)
        obtain ⟨b2, o2, rfl, hb2⟩ := ht.at_ (by omega)
        obtain ⟨r0, r1, r2⟩ := pt_at hs hx
        obtain ⟨q0, q1, q2⟩ := pt_at ht hx'
        have HX := Lib.hid hx
        have HX' := Lib.hid hx'
        have hlt2 : k < m.length := by omega
        clear hx hx'
        have hE : l.take (k + 1) = l.take k ++ [x] := by rw [List.take_add_one, HX.out]; rfl
        have hE' : m.take (k + 1) = m.take k ++ [x'] := by rw [List.take_add_one, HX'.out]; rfl
        have HE := Lib.hid hE
        have HE' := Lib.hid hE'
        clear hE hE'
        by_cases hxy : x = x'
        · subst hxy
          have heq := eqP_yes x
          go_wp2
          ((first | refine RegC.wp_region_ext1 (by kernel_rfl) (by kernel_rfl) ?_ | refine RegC.wp_region_ext0 (by kernel_rfl) (by kernel_rfl) ?_); (repeat (any_goals (first | go_big_quiet_step (fail) | (refine RegC.wpQuiet_split rfl rfl (fun hb => ?_) (fun hb => ?_) <;> simp only [hb])))); all_goals (refine wpQuiet_nil ?_; rintro _ ⟨nq, rfl⟩))
          go_wp2
          go_roundw
          case rel =>
            refine ⟨k + 1, by omega, by go_num, ?_, ext_of (by (try simp only [ext_ext]); repeat (first | exact Bel.refl _ | assumption | refine bel_and ?_ _ | refine bel_drews ?_ _ | refine Bel.ext ?_ _ | refine Bel.alloc ?_ _ | refine Bel.drewN ?_ _))⟩
            rw [HE.out, HE'.out, HG.out]
          case measure => (first | (simp [intOf]; done) | (simp [intOf]; omega))
        · have heq := eqP_no hxy
          have z1 : decide (l = m) = false := by rw [decide_eq_false_iff_not]; intro h; apply hxy; have h1 := HX.out; rw [h, HX'.out] at h1; exact (Option.some.inj h1).symm
          have Z1 := Lib.hid z1
          clear z1 hxy
          go_wp2
          ((first | refine RegC.wp_region_ext1 (by kernel_rfl) (by kernel_rfl) ?_ | refine RegC.wp_region_ext0 (by kernel_rfl) (by kernel_rfl) ?_); (repeat (any_goals (first | go_big_quiet_step (fail) | (refine RegC.wpQuiet_split rfl rfl (fun hb => ?_) (fun hb => ?_) <;> simp only [hb])))); all_goals (refine wpQuiet_nil ?_; rintro _ ⟨nq, rfl⟩))
          go_wp2
          (go_ret; exact ⟨ret_bool (by exact Z1.out.symm), ext_of (by (try simp only [ext_ext]); repeat (first | exact Bel.refl _ | assumption | refine bel_and ?_ _ | refine bel_drews ?_ _ | refine Bel.ext ?_ _ | refine Bel.alloc ?_ _ | refine Bel.drewN ?_ _))⟩)
      · go_wp2
        have z1 : decide (l = m) = true := by
          rw [decide_eq_true_eq]
          have h := HG.out
          obtain rfl : k = l.length := by omega
          rw [List.take_length] at h
          rw [h, HN.out, List.take_length]
        have Z1 := Lib.hid z1
        clear z1
        (go_ret; exact ⟨ret_bool (by exact Z1.out.symm), ext_of (by (try simp only [ext_ext]); repeat (first | exact Bel.refl _ | assumption | refine bel_and ?_ _ | refine bel_drews ?_ _ | refine Bel.ext ?_ _ | refine Bel.alloc ?_ _ | refine Bel.drewN ?_ _))⟩)
  · go_enter Try.func27, Try.ntmps27
    have z0 : ((l.length : Int) == (m.length : Int)) = false := by rw [beq_eq_false_iff_ne]; omega
    have z1 : decide (l = m) = false := by rw [decide_eq_false_iff_not]; intro h; exact hn (by rw [h])
    have Z1 := Lib.hid z1
    clear z1
    go_wp2
    (go_ret; exact ⟨ret_bool (by exact Z1.out.symm), ext_of (by (try simp only [ext_ext]); repeat (first | exact Bel.refl _ | assumption | refine bel_and ?_ _ | refine bel_drews ?_ _ | refine Bel.ext ?_ _ | refine Bel.alloc ?_ _ | refine Bel.drewN ?_ _))⟩)
end Go.Proofs.Ytkcpnclgcmnlcaa
