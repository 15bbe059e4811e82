/- Walks of the references; the orders agree; examples. -/
import Derived.Maps.Views
import Derived.Maps.OwnOps
import Derived.Test.YtkcpnclgcmnlcaaGd
set_option linter.unusedSimpArgs false
set_option linter.unusedVariables false
namespace Go.Proofs.Ytkcpnclgcmnlcaa
open Go.RowKit Go.Pel
set_option maxHeartbeats 400000 in
theorem bfind1_any (p : Pt) (id : Int) (w : World) : Calls Try.prog 123 #[.agg #[.int .i64 p.id, .int .i64 p.a, .int .i64 p.b], .int .i64 id] w fun e w' => e = .returned (.int .i64 (cmpI p.id id)) ∧ ∃ x, w' = ext w x := by
  go_enter Try.func123, Try.ntmps123
  go_wp2_with ((go_at_call 99; refine (cmpInt_any _ _ _).mono ?_; rintro e _ ⟨rfl, nx, rfl⟩))
  (go_ret; exact ⟨ret_int (by rfl), ext_of (by (try simp only [ext_ext]); repeat (first | exact Bel.refl _ | assumption | refine bel_and ?_ _ | refine bel_drews ?_ _ | refine Bel.ext ?_ _ | refine Bel.alloc ?_ _ | refine Bel.drewN ?_ _))⟩)
theorem bfind1_lit (p : Pt) (id v : Int) (h : cmpI p.id id = v) (w : World) : Calls Try.prog 123 #[.agg #[.int .i64 p.id, .int .i64 p.a, .int .i64 p.b], .int .i64 id] w fun e w' => e = .returned (.int .i64 v) ∧ ∃ x, w' = ext w x := h ▸ bfind1_any p id w
set_option maxRecDepth 10000 in
set_option maxHeartbeats 2000000 in
theorem bbsf_any (A : Option Addr) (c : Nat) (l : List Pt) (id : Int) (w : World) (hs : Sl w 3 A l.length c (vp l)) (hl : l.length ≤ 1000000) (hinc : incB l = true) :
    Calls Try.prog 97 #[.slice A l.length c, .int .i64 id, .func (.func 123) #[] #[]] w fun e w' => e = .returned (.tuple #[.int .i64 (lowB l id), .bool (hasB l id)]) ∧ ∃ x, w' = ext w x := by
  have HI := Lib.hid hinc; clear hinc
  go_enter Try.func97, Try.ntmps97
  go_wp2
  go_loopw [9, 10] (fun i j wr => ∃ (a b : Nat), a ≤ b ∧ b ≤ l.length ∧ i = .int .i64 a ∧ j = .int .i64 b ∧ (∀ (k : Nat) (p : Pt), k < a → l[k]? = some p → p.id < id) ∧ (∀ (k : Nat) (p : Pt), b ≤ k → l[k]? = some p → id ≤ p.id) ∧ ∃ y, wr = ext w y) (fun i j _ => (intOf j - intOf i).toNat)
  case atStart => exact ⟨0, l.length, Nat.zero_le _, Nat.le_refl _, rfl, rfl, (by intro k p h; omega), (by intro k p h hp; have := (List.getElem?_eq_some_iff.1 hp).1; omega), ext_of (Bel.refl _)⟩
  case round =>
    obtain ⟨a, b, hab, hbl, rfl, rfl, h1, h2, y, rfl⟩ := hrel
    have H1 := Lib.hid h1
    have H2 := Lib.hid h2
    clear h1 h2
    by_cases hlt : a < b
    · obtain ⟨m, hm1, hm2⟩ : ∃ m : Nat, 2 * m ≤ a + b ∧ a + b ≤ 2 * m + 1 := ⟨(a + b) / 2, by omega, by omega⟩
      have hmd : ((a : Int) + (b : Int)) / 2 = (m : Int) := by omega
      obtain ⟨p, hp⟩ : ∃ p, l[m]? = some p := ⟨_, List.getElem?_eq_getElem (by omega)⟩
      obtain ⟨b0, o, rfl, hb0⟩ := hs.at_ (by omega)
      obtain ⟨r0, r1, r2⟩ := pt_at hs hp
      have HP := Lib.hid hp; clear hp
      have hml : (m : Int) < (l.length : Int) := by omega
      by_cases hpi : p.id < id
      · have e1 := Lib.hid (bfind1_lit p id (-1) (cmpI_lt hpi))
        go_wp2_with ((go_at_call 123; refine (e1.out _).mono ?_; rintro e _ ⟨rfl, nx, rfl⟩))
        go_roundw
        case rel =>
          refine ⟨m + 1, b, by omega, hbl, by go_num, rfl, ?_, H2.out, ext_of (by (try simp only [ext_ext]); repeat (first | exact Bel.refl _ | assumption | refine bel_and ?_ _ | refine bel_drews ?_ _ | refine Bel.ext ?_ _ | refine Bel.alloc ?_ _ | refine Bel.drewN ?_ _))⟩
          intro k q hk hq
          rcases Nat.lt_or_ge k m with h | h
          · have := inc_lt HI.out h hq HP.out; omega
          · obtain rfl : k = m := by omega
            rw [HP.out] at hq; obtain rfl := Option.some.inj hq; exact hpi
        case measure => (first | (simp [intOf]; done) | (simp [intOf]; omega))
      · have e1 : Hid (∃ v : Int, ¬ v < 0 ∧ cmpI p.id id = v) := Lib.hid (by
          by_cases h : id < p.id
          · exact ⟨1, by omega, cmpI_gt h⟩
          · exact ⟨0, by omega, cmpI_eq (by omega)⟩)
        obtain ⟨v, hv, e2⟩ := e1.out
        have e1 := Lib.hid (bfind1_lit p id v e2)
        clear e2
        go_wp2_with ((go_at_call 123; refine (e1.out _).mono ?_; rintro e _ ⟨rfl, nx, rfl⟩))
        go_roundw
        case rel =>
          refine ⟨a, m, by omega, by omega, rfl, rfl, H1.out, ?_, ext_of (by (try simp only [ext_ext]); repeat (first | exact Bel.refl _ | assumption | refine bel_and ?_ _ | refine bel_drews ?_ _ | refine Bel.ext ?_ _ | refine Bel.alloc ?_ _ | refine Bel.drewN ?_ _))⟩
          intro k q hk hq
          rcases Nat.lt_or_ge m k with h | h
          · have := inc_lt HI.out h HP.out hq; omega
          · obtain rfl : k = m := by omega
            rw [HP.out] at hq; obtain rfl := Option.some.inj hq; omega
        case measure => (first | (simp [intOf]; done) | (simp [intOf]; omega))
    · obtain rfl : a = b := by omega
      have HL := Lib.hid (lowB_of hbl H1.out (fun p hp => H2.out a p (Nat.le_refl _) hp))
      have HH := Lib.hid (hasB_at HI.out id)
      by_cases hal : a < l.length
      · obtain ⟨p, hp⟩ : ∃ p, l[a]? = some p := ⟨_, List.getElem?_eq_getElem hal⟩
        obtain ⟨b0, o, rfl, hb0⟩ := hs.at_ (by omega)
        obtain ⟨r0, r1, r2⟩ := pt_at hs hp
        have HP := Lib.hid hp; clear hp
        have hge := H2.out a p (Nat.le_refl _) HP.out
        have hal2 : (a : Int) < (l.length : Int) := by omega
        by_cases hpi : p.id = id
        · have e1 := Lib.hid (bfind1_lit p id 0 (cmpI_eq hpi))
          have HB : Hid (hasB l id = true) := Lib.hid (by rw [HH.out, HL.out, HP.out]; simpa using hpi)
          clear hpi
          go_wp2_with ((go_at_call 123; refine (e1.out _).mono ?_; rintro e _ ⟨rfl, nx, rfl⟩))
          go_ret2
          exact ⟨by rw [HL.out, HB.out]; rfl, ext_of (by (try simp only [ext_ext]); repeat (first | exact Bel.refl _ | assumption | refine bel_and ?_ _ | refine bel_drews ?_ _ | refine Bel.ext ?_ _ | refine Bel.alloc ?_ _ | refine Bel.drewN ?_ _))⟩
        · have e1 := Lib.hid (bfind1_lit p id 1 (cmpI_gt (by omega)))
          have HB : Hid (hasB l id = false) := Lib.hid (by rw [HH.out, HL.out, HP.out]; simpa using hpi)
          clear hpi
          go_wp2_with ((go_at_call 123; refine (e1.out _).mono ?_; rintro e _ ⟨rfl, nx, rfl⟩))
          go_ret2
          exact ⟨by rw [HL.out, HB.out]; rfl, ext_of (by (try simp only [ext_ext]); repeat (first | exact Bel.refl _ | assumption | refine bel_and ?_ _ | refine bel_drews ?_ _ | refine Bel.ext ?_ _ | refine Bel.alloc ?_ _ | refine Bel.drewN ?_ _))⟩
      · have HB : Hid (hasB l id = false) := Lib.hid (by rw [HH.out, HL.out, List.getElem?_eq_none (by omega)])
        go_wp2
        go_ret2
        exact ⟨by rw [HL.out, HB.out]; rfl, ext_of (by (try simp only [ext_ext]); repeat (first | exact Bel.refl _ | assumption | refine bel_and ?_ _ | refine bel_drews ?_ _ | refine Bel.ext ?_ _ | refine Bel.alloc ?_ _ | refine Bel.drewN ?_ _))⟩
set_option maxHeartbeats 400000 in
theorem bfind_any (A : Option Addr) (c : Nat) (l : List Pt) (id : Int) (w : World) (hs : Sl w 3 A l.length c (vp l)) (hl : l.length ≤ 1000000) (hinc : incB l = true) :
    Calls Try.prog 104 #[.agg #[.slice A l.length c], .int .i64 id] w fun e w' => e = .returned (.tuple #[.int .i64 (lowB l id), .bool (hasB l id)]) ∧ ∃ x, w' = ext w x := by
  have q := Lib.hid (fun W hb => bbsf_any A c l id W (hs.bel (w' := W) hb) hl hinc)
  clear hinc
  go_enter Try.func104, Try.ntmps104
  go_wp2_with ((go_at_call 97; refine (q.out _ (by (try simp only [ext_ext]); repeat (first | exact Bel.refl _ | assumption | refine bel_and ?_ _ | refine bel_drews ?_ _ | refine Bel.ext ?_ _ | refine Bel.alloc ?_ _ | refine Bel.drewN ?_ _))).mono ?_; rintro e _ ⟨rfl, nx, rfl⟩))
  go_ret2
  exact ⟨rfl, ext_of (by (try simp only [ext_ext]); repeat (first | exact Bel.refl _ | assumption | refine bel_and ?_ _ | refine bel_drews ?_ _ | refine Bel.ext ?_ _ | refine Bel.alloc ?_ _ | refine Bel.drewN ?_ _))⟩
end Go.Proofs.Ytkcpnclgcmnlcaa

namespace Go
def ExJ (J : Nat → World → Prop) (w : World) : Prop := ∃ k, J k w
def allB (p : Nat → Bool) (n : Nat) : Bool := (List.range n).all p
theorem allB_yes {p : Nat → Bool} {n : Nat} (h : ∀ j, j < n → p j = true) : allB p n = true := by
  unfold allB; rw [List.all_eq_true]; intro j hj; exact h j (by simpa using hj)
theorem allB_no {p : Nat → Bool} {n k : Nat} (hk : k < n) (h : p k = false) : allB p n = false := by
  unfold allB; rw [List.all_eq_false]; exact ⟨k, by simpa using hk, by simp [h]⟩
end Go
namespace Go.Proofs.Ytkcpnclgcmnlcaa
open Go.RowKit Go.Pel
set_option maxRecDepth 10000 in
set_option maxHeartbeats 1000000 in
theorem all1_once (x : Int) (cb : Nat) (mb : Nat) (w : World) (hb : Held w cb 0 (.func (.func 105) #[] #[.pointer (some ⟨mb, 0, none⟩)])) (b : Bool) (R : World → Prop)
    (hF : Calls Try.prog 105 #[.int .i64 x, .pointer (some ⟨mb, 0, none⟩)] w fun e w' => e = .returned (.bool b) ∧ R w') :
    Calls Try.prog 110 #[.int .i64 x, .pointer (some ⟨cb, 0, none⟩)] w fun e w' => e = .returned (.bool (!b)) ∧ R w' := by
  have c0 := hb.eq
  have c1 := hb.lt
  have q := Lib.hid hF
  clear hF hb
  go_enter Try.func110, Try.ntmps110
  go_wp2_with (go_at_call 105; (with_reducible refine q.out.mono ?_); rintro e W2 ⟨rfl, hR⟩)
  go_ret
  exact ⟨rfl, hR⟩
set_option maxRecDepth 10000 in
set_option maxHeartbeats 2000000 in
theorem index_once (A : Option Addr) (c : Nat) (l : List Int) (cb : Nat) (mb : Nat) (J : Nat → World → Prop) (p : Nat → Bool) (w : World) (hl : l.length ≤ 1000000) (h0 : J 0 w)
    (hS : ∀ k W, J k W → Sl W 1 A l.length c (vi l)) (hH : ∀ k W, J k W → Held W cb 0 (.func (.func 105) #[] #[.pointer (some ⟨mb, 0, none⟩)]))
    (hF : ∀ k x W, l[k]? = some x → J k W → Calls Try.prog 105 #[.int .i64 x, .pointer (some ⟨mb, 0, none⟩)] W fun e w' => e = .returned (.bool (p k)) ∧ J (k + 1) w') :
    Calls Try.prog 124 #[.slice A l.length c, .func (.func 110) #[] #[.pointer (some ⟨cb, 0, none⟩)]] w fun e w' => ∃ r : Int, e = .returned (.int .i64 r) ∧ decide (0 ≤ r) = !(allB p l.length) ∧ ExJ J w' := by
  have QS := Lib.hid hS
  have QH := Lib.hid hH
  have QF := Lib.hid hF
  clear hS hH hF
  go_enter Try.func124, Try.ntmps124
  go_wp2
  go_loopw [8] (fun i wr => ∃ k : Nat, k ≤ l.length ∧ i = .int .i64 k ∧ (∀ j, j < k → p j = true) ∧ J k wr) (fun i _ => l.length - (intOf i).toNat)
  case atStart => exact ⟨0, Nat.zero_le _, rfl, (fun j h => absurd h (Nat.not_lt_zero j)), h0⟩
  case round =>
    obtain ⟨k, hk, rfl, h1, hJ⟩ := hrel
    have H1 := Lib.hid h1
    clear h1
    by_cases hlt : k < l.length
    · obtain ⟨x, hx⟩ : ∃ x, l[k]? = some x := ⟨_, List.getElem?_eq_getElem hlt⟩
      have HX := Lib.hid hx
      obtain ⟨b, o, rfl, hb⟩ := (QS.out k wr hJ).at_ (by omega)
      have c0 := sl_int (QS.out k wr hJ) hx
      have q := Lib.hid (all1_once x cb mb wr (QH.out k wr hJ) (p k) (J (k + 1)) (QF.out k x wr hx hJ))
      have hlt' : (k : Int) < (l.length : Int) := by omega
      clear hx
      cases hp : p k with
      | true =>
        rw [hp] at q
        have H2 := Lib.hid hp
        clear hp hJ
        go_wp2_with (go_at_call 110; (with_reducible refine q.out.mono ?_); rintro e W2 ⟨rfl, hJ2⟩)
        go_roundw
        case rel =>
          refine ⟨k + 1, by omega, by go_num, ?_, hJ2⟩
          intro j hj
          rcases Nat.lt_or_ge j k with h | h
          · exact H1.out j h
          · obtain rfl : j = k := by omega
            exact H2.out
        case measure => (first | (simp [intOf]; done) | (simp [intOf]; omega))
      | false =>
        rw [hp] at q
        have H2 := Lib.hid (allB_no hlt hp)
        clear hp hJ
        go_wp2_with (go_at_call 110; (with_reducible refine q.out.mono ?_); rintro e W2 ⟨rfl, hJ2⟩)
        go_ret
        exact ⟨(k : Int), rfl, by rw [H2.out]; simp, ⟨k + 1, hJ2⟩⟩
    · obtain rfl : k = l.length := by omega
      have H2 := Lib.hid (allB_yes H1.out)
      go_wp2
      go_ret
      exact ⟨-1, rfl, by rw [H2.out]; rfl, ⟨_, hJ⟩⟩
set_option maxRecDepth 10000 in
set_option maxHeartbeats 1000000 in
theorem contains_once (A : Option Addr) (c : Nat) (l : List Int) (cb : Nat) (mb : Nat) (J : Nat → World → Prop) (p : Nat → Bool) (w : World) (hl : l.length ≤ 1000000) (h0 : J 0 w)
    (hS : ∀ k W, J k W → Sl W 1 A l.length c (vi l)) (hH : ∀ k W, J k W → Held W cb 0 (.func (.func 105) #[] #[.pointer (some ⟨mb, 0, none⟩)]))
    (hF : ∀ k x W, l[k]? = some x → J k W → Calls Try.prog 105 #[.int .i64 x, .pointer (some ⟨mb, 0, none⟩)] W fun e w' => e = .returned (.bool (p k)) ∧ J (k + 1) w') :
    Calls Try.prog 109 #[.slice A l.length c, .func (.func 110) #[] #[.pointer (some ⟨cb, 0, none⟩)]] w fun e w' => e = .returned (.bool (!(allB p l.length))) ∧ ExJ J w' := by
  have q := Lib.hid (index_once A c l cb mb J p w hl h0 hS hH hF)
  generalize allB p l.length = b at q ⊢
  clear hS hH hF h0 hl
  go_enter Try.func109, Try.ntmps109
  go_wp2_with (go_at_call 124; (with_reducible refine q.out.mono ?_); rintro e W2 ⟨r, rfl, hr, hJ2⟩)
  go_ret
  exact ⟨by simp [hr], hJ2⟩
set_option maxRecDepth 10000 in
set_option maxHeartbeats 1000000 in
/-- J speaks of the worlds behind the box that 'all' makes for its test. -/
theorem all_once (A : Option Addr) (c : Nat) (l : List Int) (mb : Nat) (J : Nat → World → Prop) (p : Nat → Bool) (w : World) (hl : l.length ≤ 1000000)
    (h0 : J 0 (w.alloc (.cells #[.func (.func 105) #[] #[.pointer (some ⟨mb, 0, none⟩)]] 124)))
    (hS : ∀ k W, J k W → Sl W 1 A l.length c (vi l)) (hB : ∀ k W, J k W → Box W w.heap.size #[.func (.func 105) #[] #[.pointer (some ⟨mb, 0, none⟩)]])
    (hF : ∀ k x W, l[k]? = some x → J k W → Calls Try.prog 105 #[.int .i64 x, .pointer (some ⟨mb, 0, none⟩)] W fun e w' => e = .returned (.bool (p k)) ∧ J (k + 1) w') :
    Calls Try.prog 87 #[.slice A l.length c, .func (.func 105) #[] #[.pointer (some ⟨mb, 0, none⟩)]] w fun e w' => e = .returned (.bool (allB p l.length)) ∧ ExJ J w' := by
  have q := Lib.hid (contains_once A c l w.heap.size mb J p _ hl h0 hS (fun k W h => ⟨(hB k W h).lt, (hB k W h).eq 0 _ rfl, (hB k W h).fr 0⟩) hF)
  generalize allB p l.length = b at q ⊢
  clear hS hB hF h0 hl
  go_enter Try.func87, Try.ntmps87
  go_wp2_with (go_at_call 109; (with_reducible refine q.out.mono ?_); rintro e W2 ⟨rfl, hJ2⟩)
  go_ret
  exact ⟨by simp, hJ2⟩
set_option maxRecDepth 10000 in
set_option maxHeartbeats 1000000 in
theorem all1_known (x : Int) (cb : Nat) (mb : Nat) (w : World) (hb : Held w cb 0 (.func (.func 103) #[] #[.pointer (some ⟨mb, 0, none⟩)])) (b : Bool) (R : World → Prop)
    (hF : Calls Try.prog 103 #[.int .i64 x, .pointer (some ⟨mb, 0, none⟩)] w fun e w' => e = .returned (.bool b) ∧ R w') :
    Calls Try.prog 110 #[.int .i64 x, .pointer (some ⟨cb, 0, none⟩)] w fun e w' => e = .returned (.bool (!b)) ∧ R w' := by
  have c0 := hb.eq
  have c1 := hb.lt
  have q := Lib.hid hF
  clear hF hb
  go_enter Try.func110, Try.ntmps110
  go_wp2_with (go_at_call 103; (with_reducible refine q.out.mono ?_); rintro e W2 ⟨rfl, hR⟩)
  go_ret
  exact ⟨rfl, hR⟩
set_option maxRecDepth 10000 in
set_option maxHeartbeats 2000000 in
theorem index_known (A : Option Addr) (c : Nat) (l : List Int) (cb : Nat) (mb : Nat) (J : Nat → World → Prop) (p : Nat → Bool) (w : World) (hl : l.length ≤ 1000000) (h0 : J 0 w)
    (hS : ∀ k W, J k W → Sl W 1 A l.length c (vi l)) (hH : ∀ k W, J k W → Held W cb 0 (.func (.func 103) #[] #[.pointer (some ⟨mb, 0, none⟩)]))
    (hF : ∀ k x W, l[k]? = some x → J k W → Calls Try.prog 103 #[.int .i64 x, .pointer (some ⟨mb, 0, none⟩)] W fun e w' => e = .returned (.bool (p k)) ∧ J (k + 1) w') :
    Calls Try.prog 124 #[.slice A l.length c, .func (.func 110) #[] #[.pointer (some ⟨cb, 0, none⟩)]] w fun e w' => ∃ r : Int, e = .returned (.int .i64 r) ∧ decide (0 ≤ r) = !(allB p l.length) ∧ ExJ J w' := by
  have QS := Lib.hid hS
  have QH := Lib.hid hH
  have QF := Lib.hid hF
  clear hS hH hF
  go_enter Try.func124, Try.ntmps124
  go_wp2
  go_loopw [8] (fun i wr => ∃ k : Nat, k ≤ l.length ∧ i = .int .i64 k ∧ (∀ j, j < k → p j = true) ∧ J k wr) (fun i _ => l.length - (intOf i).toNat)
  case atStart => exact ⟨0, Nat.zero_le _, rfl, (fun j h => absurd h (Nat.not_lt_zero j)), h0⟩
  case round =>
    obtain ⟨k, hk, rfl, h1, hJ⟩ := hrel
    have H1 := Lib.hid h1
    clear h1
    by_cases hlt : k < l.length
    · obtain ⟨x, hx⟩ : ∃ x, l[k]? = some x := ⟨_, List.getElem?_eq_getElem hlt⟩
      have HX := Lib.hid hx
      obtain ⟨b, o, rfl, hb⟩ := (QS.out k wr hJ).at_ (by omega)
      have c0 := sl_int (QS.out k wr hJ) hx
      have q := Lib.hid (all1_known x cb mb wr (QH.out k wr hJ) (p k) (J (k + 1)) (QF.out k x wr hx hJ))
      have hlt' : (k : Int) < (l.length : Int) := by omega
      clear hx
      cases hp : p k with
      | true =>
        rw [hp] at q
        have H2 := Lib.hid hp
        clear hp hJ
        go_wp2_with (go_at_call 110; (with_reducible refine q.out.mono ?_); rintro e W2 ⟨rfl, hJ2⟩)
        go_roundw
        case rel =>
          refine ⟨k + 1, by omega, by go_num, ?_, hJ2⟩
          intro j hj
          rcases Nat.lt_or_ge j k with h | h
          · exact H1.out j h
          · obtain rfl : j = k := by omega
            exact H2.out
        case measure => (first | (simp [intOf]; done) | (simp [intOf]; omega))
      | false =>
        rw [hp] at q
        have H2 := Lib.hid (allB_no hlt hp)
        clear hp hJ
        go_wp2_with (go_at_call 110; (with_reducible refine q.out.mono ?_); rintro e W2 ⟨rfl, hJ2⟩)
        go_ret
        exact ⟨(k : Int), rfl, by rw [H2.out]; simp, ⟨k + 1, hJ2⟩⟩
    · obtain rfl : k = l.length := by omega
      have H2 := Lib.hid (allB_yes H1.out)
      go_wp2
      go_ret
      exact ⟨-1, rfl, by rw [H2.out]; rfl, ⟨_, hJ⟩⟩
set_option maxRecDepth 10000 in
set_option maxHeartbeats 1000000 in
theorem contains_known (A : Option Addr) (c : Nat) (l : List Int) (cb : Nat) (mb : Nat) (J : Nat → World → Prop) (p : Nat → Bool) (w : World) (hl : l.length ≤ 1000000) (h0 : J 0 w)
    (hS : ∀ k W, J k W → Sl W 1 A l.length c (vi l)) (hH : ∀ k W, J k W → Held W cb 0 (.func (.func 103) #[] #[.pointer (some ⟨mb, 0, none⟩)]))
    (hF : ∀ k x W, l[k]? = some x → J k W → Calls Try.prog 103 #[.int .i64 x, .pointer (some ⟨mb, 0, none⟩)] W fun e w' => e = .returned (.bool (p k)) ∧ J (k + 1) w') :
    Calls Try.prog 109 #[.slice A l.length c, .func (.func 110) #[] #[.pointer (some ⟨cb, 0, none⟩)]] w fun e w' => e = .returned (.bool (!(allB p l.length))) ∧ ExJ J w' := by
  have q := Lib.hid (index_known A c l cb mb J p w hl h0 hS hH hF)
  generalize allB p l.length = b at q ⊢
  clear hS hH hF h0 hl
  go_enter Try.func109, Try.ntmps109
  go_wp2_with (go_at_call 124; (with_reducible refine q.out.mono ?_); rintro e W2 ⟨r, rfl, hr, hJ2⟩)
  go_ret
  exact ⟨by simp [hr], hJ2⟩
set_option maxRecDepth 10000 in
set_option maxHeartbeats 1000000 in
/-- J speaks of the worlds behind the box that 'all' makes for its test. -/
theorem all_known (A : Option Addr) (c : Nat) (l : List Int) (mb : Nat) (J : Nat → World → Prop) (p : Nat → Bool) (w : World) (hl : l.length ≤ 1000000)
    (h0 : J 0 (w.alloc (.cells #[.func (.func 103) #[] #[.pointer (some ⟨mb, 0, none⟩)]] 124)))
    (hS : ∀ k W, J k W → Sl W 1 A l.length c (vi l)) (hB : ∀ k W, J k W → Box W w.heap.size #[.func (.func 103) #[] #[.pointer (some ⟨mb, 0, none⟩)]])
    (hF : ∀ k x W, l[k]? = some x → J k W → Calls Try.prog 103 #[.int .i64 x, .pointer (some ⟨mb, 0, none⟩)] W fun e w' => e = .returned (.bool (p k)) ∧ J (k + 1) w') :
    Calls Try.prog 87 #[.slice A l.length c, .func (.func 103) #[] #[.pointer (some ⟨mb, 0, none⟩)]] w fun e w' => e = .returned (.bool (allB p l.length)) ∧ ExJ J w' := by
  have q := Lib.hid (contains_known A c l w.heap.size mb J p _ hl h0 hS (fun k W h => ⟨(hB k W h).lt, (hB k W h).eq 0 _ rfl, (hB k W h).fr 0⟩) hF)
  generalize allB p l.length = b at q ⊢
  clear hS hB hF h0 hl
  go_enter Try.func87, Try.ntmps87
  go_wp2_with (go_at_call 109; (with_reducible refine q.out.mono ?_); rintro e W2 ⟨rfl, hJ2⟩)
  go_ret
  exact ⟨by simp, hJ2⟩
set_option maxRecDepth 10000 in
set_option maxHeartbeats 1000000 in
theorem all1_chk (x : Int) (cb : Nat) (w : World) (hb : Held w cb 0 (.func (.func 88) #[] #[])) (b : Bool) (R : World → Prop)
    (hF : Calls Try.prog 88 #[.int .i64 x] w fun e w' => e = .returned (.bool b) ∧ R w') :
    Calls Try.prog 110 #[.int .i64 x, .pointer (some ⟨cb, 0, none⟩)] w fun e w' => e = .returned (.bool (!b)) ∧ R w' := by
  have c0 := hb.eq
  have c1 := hb.lt
  have q := Lib.hid hF
  clear hF hb
  go_enter Try.func110, Try.ntmps110
  go_wp2_with (go_at_call 88; (with_reducible refine q.out.mono ?_); rintro e W2 ⟨rfl, hR⟩)
  go_ret
  exact ⟨rfl, hR⟩
set_option maxRecDepth 10000 in
set_option maxHeartbeats 2000000 in
theorem index_chk (A : Option Addr) (c : Nat) (l : List Int) (cb : Nat) (J : Nat → World → Prop) (p : Nat → Bool) (w : World) (hl : l.length ≤ 1000000) (h0 : J 0 w)
    (hS : ∀ k W, J k W → Sl W 1 A l.length c (vi l)) (hH : ∀ k W, J k W → Held W cb 0 (.func (.func 88) #[] #[]))
    (hF : ∀ k x W, l[k]? = some x → J k W → Calls Try.prog 88 #[.int .i64 x] W fun e w' => e = .returned (.bool (p k)) ∧ J (k + 1) w') :
    Calls Try.prog 124 #[.slice A l.length c, .func (.func 110) #[] #[.pointer (some ⟨cb, 0, none⟩)]] w fun e w' => ∃ r : Int, e = .returned (.int .i64 r) ∧ decide (0 ≤ r) = !(allB p l.length) ∧ ExJ J w' := by
  have QS := Lib.hid hS
  have QH := Lib.hid hH
  have QF := Lib.hid hF
  clear hS hH hF
  go_enter Try.func124, Try.ntmps124
  go_wp2
  go_loopw [8] (fun i wr => ∃ k : Nat, k ≤ l.length ∧ i = .int .i64 k ∧ (∀ j, j < k → p j = true) ∧ J k wr) (fun i _ => l.length - (intOf i).toNat)
  case atStart => exact ⟨0, Nat.zero_le _, rfl, (fun j h => absurd h (Nat.not_lt_zero j)), h0⟩
  case round =>
    obtain ⟨k, hk, rfl, h1, hJ⟩ := hrel
    have H1 := Lib.hid h1
    clear h1
    by_cases hlt : k < l.length
    · obtain ⟨x, hx⟩ : ∃ x, l[k]? = some x := ⟨_, List.getElem?_eq_getElem hlt⟩
      have HX := Lib.hid hx
      obtain ⟨b, o, rfl, hb⟩ := (QS.out k wr hJ).at_ (by omega)
      have c0 := sl_int (QS.out k wr hJ) hx
      have q := Lib.hid (all1_chk x cb wr (QH.out k wr hJ) (p k) (J (k + 1)) (QF.out k x wr hx hJ))
      have hlt' : (k : Int) < (l.length : Int) := by omega
      clear hx
      cases hp : p k with
      | true =>
        rw [hp] at q
        have H2 := Lib.hid hp
        clear hp hJ
        go_wp2_with (go_at_call 110; (with_reducible refine q.out.mono ?_); rintro e W2 ⟨rfl, hJ2⟩)
        go_roundw
        case rel =>
          refine ⟨k + 1, by omega, by go_num, ?_, hJ2⟩
          intro j hj
          rcases Nat.lt_or_ge j k with h | h
          · exact H1.out j h
          · obtain rfl : j = k := by omega
            exact H2.out
        case measure => (first | (simp [intOf]; done) | (simp [intOf]; omega))
      | false =>
        rw [hp] at q
        have H2 := Lib.hid (allB_no hlt hp)
        clear hp hJ
        go_wp2_with (go_at_call 110; (with_reducible refine q.out.mono ?_); rintro e W2 ⟨rfl, hJ2⟩)
        go_ret
        exact ⟨(k : Int), rfl, by rw [H2.out]; simp, ⟨k + 1, hJ2⟩⟩
    · obtain rfl : k = l.length := by omega
      have H2 := Lib.hid (allB_yes H1.out)
      go_wp2
      go_ret
      exact ⟨-1, rfl, by rw [H2.out]; rfl, ⟨_, hJ⟩⟩
set_option maxRecDepth 10000 in
set_option maxHeartbeats 1000000 in
theorem contains_chk (A : Option Addr) (c : Nat) (l : List Int) (cb : Nat) (J : Nat → World → Prop) (p : Nat → Bool) (w : World) (hl : l.length ≤ 1000000) (h0 : J 0 w)
    (hS : ∀ k W, J k W → Sl W 1 A l.length c (vi l)) (hH : ∀ k W, J k W → Held W cb 0 (.func (.func 88) #[] #[]))
    (hF : ∀ k x W, l[k]? = some x → J k W → Calls Try.prog 88 #[.int .i64 x] W fun e w' => e = .returned (.bool (p k)) ∧ J (k + 1) w') :
    Calls Try.prog 109 #[.slice A l.length c, .func (.func 110) #[] #[.pointer (some ⟨cb, 0, none⟩)]] w fun e w' => e = .returned (.bool (!(allB p l.length))) ∧ ExJ J w' := by
  have q := Lib.hid (index_chk A c l cb J p w hl h0 hS hH hF)
  generalize allB p l.length = b at q ⊢
  clear hS hH hF h0 hl
  go_enter Try.func109, Try.ntmps109
  go_wp2_with (go_at_call 124; (with_reducible refine q.out.mono ?_); rintro e W2 ⟨r, rfl, hr, hJ2⟩)
  go_ret
  exact ⟨by simp [hr], hJ2⟩
set_option maxRecDepth 10000 in
set_option maxHeartbeats 1000000 in
/-- J speaks of the worlds behind the box that 'all' makes for its test. -/
theorem all_chk (A : Option Addr) (c : Nat) (l : List Int) (J : Nat → World → Prop) (p : Nat → Bool) (w : World) (hl : l.length ≤ 1000000)
    (h0 : J 0 (w.alloc (.cells #[.func (.func 88) #[] #[]] 124)))
    (hS : ∀ k W, J k W → Sl W 1 A l.length c (vi l)) (hB : ∀ k W, J k W → Box W w.heap.size #[.func (.func 88) #[] #[]])
    (hF : ∀ k x W, l[k]? = some x → J k W → Calls Try.prog 88 #[.int .i64 x] W fun e w' => e = .returned (.bool (p k)) ∧ J (k + 1) w') :
    Calls Try.prog 87 #[.slice A l.length c, .func (.func 88) #[] #[]] w fun e w' => e = .returned (.bool (allB p l.length)) ∧ ExJ J w' := by
  have q := Lib.hid (contains_chk A c l w.heap.size J p _ hl h0 hS (fun k W h => ⟨(hB k W h).lt, (hB k W h).eq 0 _ rfl, (hB k W h).fr 0⟩) hF)
  generalize allB p l.length = b at q ⊢
  clear hS hB hF h0 hl
  go_enter Try.func87, Try.ntmps87
  go_wp2_with (go_at_call 109; (with_reducible refine q.out.mono ?_); rintro e W2 ⟨rfl, hJ2⟩)
  go_ret
  exact ⟨by simp, hJ2⟩
end Go.Proofs.Ytkcpnclgcmnlcaa

namespace Go.Pel
open Go Go.RowKit
def nodeV (P W : List Int) (i : Nat) : Int := if i < W.length then W.getD i 0 else P.getD (i - W.length) 0
theorem nodeV_win {P W : List Int} {i : Nat} {x : Int} (h : W[i]? = some x) : nodeV P W i = x := by
  unfold nodeV; rw [if_pos (List.getElem?_eq_some_iff.1 h).1, List.getD_eq_getElem?_getD, h]; rfl
theorem nodeV_place {P W : List Int} {k : Nat} {x : Int} (h : P[k]? = some x) : nodeV P W (W.length + k) = x := by
  unfold nodeV; rw [if_neg (by omega), show W.length + k - W.length = k by omega, List.getD_eq_getElem?_getD, h]; rfl
/-- the point with an ID that the field has -/
def ptOf (l : List Pt) (id : Int) : Pt := l.getD (lowB l id) Pt.zero
theorem ptOf_eq {l : List Pt} (h : incB l = true) {id : Int} (hb : hasB l id = true) : l[lowB l id]? = some (ptOf l id) ∧ (ptOf l id).id = id ∧ ptOf l id ∈ l := by
  obtain ⟨_, p, hp, he⟩ := atI_low h hb
  have : ptOf l id = p := by unfold ptOf; rw [List.getD_eq_getElem?_getD, hp]; rfl
  rw [this]; exact ⟨hp, he, List.mem_of_getElem? hp⟩
/-- P10.1: the winner of two IDs -/
def wonV (l : List Pt) (n d x y : Int) : Int := if x < 0 ∨ y < 0 then (if x < y then y else x) else if leads (ptOf l x) (ptOf l y) n d = true then x else y
def knownB (l : List Pt) (P : List Int) : Bool := P.all fun id => hasB l id || id == -1
/-- an ID that has a point, or none -/
def Ok (l : List Pt) (x : Int) : Prop := x = -1 ∨ hasB l x = true
theorem known_ok {l : List Pt} {P : List Int} (h : knownB l P = true) {x : Int} (hx : x ∈ P) : Ok l x := by
  unfold knownB at h; rw [List.all_eq_true] at h
  have := h x hx
  simp at this
  rcases this with h | h
  · exact .inr h
  · exact .inl h
theorem has_nonneg {l : List Pt} (h : fieldChk l = 0) {x : Int} (hb : hasB l x = true) : 0 ≤ x ∧ x ≤ 65535 := by
  obtain ⟨p, hp, rfl⟩ := hasB_ex hb
  have := chk_pt ((fieldChk_zero h).2.1 p hp)
  omega
theorem won_ok {l : List Pt} {n d x y : Int} (hx : Ok l x) (hy : Ok l y) : Ok l (wonV l n d x y) := by
  unfold wonV
  split
  · split
    · exact hy
    · exact hx
  · split
    · exact hx
    · exact hy
end Go.Pel

namespace Go.Proofs.Ytkcpnclgcmnlcaa
open Go.RowKit Go.Pel
set_option maxRecDepth 10000 in
set_option maxHeartbeats 1000000 in
theorem btimed_any (A : Option Addr) (c : Nat) (l : List Pt) (n d : Int) (w : World) (hn : -9223372036854775808 ≤ n ∧ n ≤ 9223372036854775807) (hd : -9223372036854775808 ≤ d ∧ d ≤ 9223372036854775807) (hs : Sl w 3 A l.length c (vp l)) :
    Calls Try.prog 74 #[.agg #[.slice A l.length c], .agg #[.int .i64 n, .int .i64 d]] w fun e w' => e = .returned (.int .i64 (timed l n d)) ∧ ∃ x, w' = ext w x := by
  have q := Lib.hid (fun W hb => fieldCheck_any A c l W (hs.bel (w' := W) hb))
  have q2 := Lib.hid (fun W => rchk_lit n d (ratioChk n d) rfl hn hd W)
  unfold timed
  generalize fieldChk l = v at q ⊢
  by_cases h : v = 0
  · subst h
    rw [if_neg (by decide)]
    clear hn hd
    go_enter Try.func74, Try.ntmps74
    go_wp2_with (first | (go_at_call 25; refine (q.out _ (by (try simp only [ext_ext]); repeat (first | exact Bel.refl _ | assumption | refine bel_and ?_ _ | refine bel_drews ?_ _ | refine Bel.ext ?_ _ | refine Bel.alloc ?_ _ | refine Bel.drewN ?_ _))).mono ?_; rintro e _ ⟨rfl, nx, rfl⟩) | (go_at_call 102; refine (q2.out _).mono ?_; rintro e _ ⟨rfl, nx, rfl⟩))
    (go_ret; exact ⟨ret_int (by rfl), ext_of (by (try simp only [ext_ext]); repeat (first | exact Bel.refl _ | assumption | refine bel_and ?_ _ | refine bel_drews ?_ _ | refine Bel.ext ?_ _ | refine Bel.alloc ?_ _ | refine Bel.drewN ?_ _))⟩)
  · rw [if_pos h]
    have h' : (v != 0) = true := by simpa using h
    clear h hn hd
    go_enter Try.func74, Try.ntmps74
    go_wp2_with (first | (go_at_call 25; refine (q.out _ (by (try simp only [ext_ext]); repeat (first | exact Bel.refl _ | assumption | refine bel_and ?_ _ | refine bel_drews ?_ _ | refine Bel.ext ?_ _ | refine Bel.alloc ?_ _ | refine Bel.drewN ?_ _))).mono ?_; rintro e _ ⟨rfl, nx, rfl⟩) | (go_at_call 102; refine (q2.out _).mono ?_; rintro e _ ⟨rfl, nx, rfl⟩))
    (go_ret; exact ⟨ret_int (by rfl), ext_of (by (try simp only [ext_ext]); repeat (first | exact Bel.refl _ | assumption | refine bel_and ?_ _ | refine bel_drews ?_ _ | refine Bel.ext ?_ _ | refine Bel.alloc ?_ _ | refine Bel.drewN ?_ _))⟩)
set_option maxRecDepth 10000 in
set_option maxHeartbeats 1000000 in
theorem node_any (A B : Option Addr) (c d : Nat) (P W : List Int) (i : Nat) (w : World) (hs : Sl w 1 A P.length c (vi P)) (ht : Sl w 1 B W.length d (vi W)) (hP : P.length ≤ 1000) (hW : W.length ≤ 1000) (hi : i < W.length + P.length) :
    Calls Try.prog 80 #[.agg #[.slice A P.length c, .slice B W.length d], .int .i64 i] w fun e w' => e = .returned (.int .i64 (nodeV P W i)) ∧ ∃ x, w' = ext w x := by
  by_cases h : i < W.length
  · obtain ⟨x, hx⟩ : ∃ x, W[i]? = some x := ⟨_, List.getElem?_eq_getElem h⟩
    have HV := Lib.hid (nodeV_win (P := P) hx)
    obtain ⟨b, o, rfl, hb⟩ := ht.at_ (by omega)
    have r0 := sl_int ht hx
    have h1 : (i : Int) < (W.length : Int) := by omega
    have h2 : (W.length : Int) ≤ 1000 := by omega
    have h3 : decide (0 ≤ (i : Int) - (W.length : Int)) = false := by rw [decide_eq_false_iff_not]; omega
    have h4 : decide ((W.length : Int) ≤ (i : Int)) = false := by rw [decide_eq_false_iff_not]; omega
    clear hx
    go_enter Try.func80, Try.ntmps80
    go_wp2
    (go_ret; exact ⟨ret_int (by exact HV.out.symm), ext_of (by (try simp only [ext_ext]); repeat (first | exact Bel.refl _ | assumption | refine bel_and ?_ _ | refine bel_drews ?_ _ | refine Bel.ext ?_ _ | refine Bel.alloc ?_ _ | refine Bel.drewN ?_ _))⟩)
  · obtain ⟨k, hk⟩ : ∃ k, i = W.length + k := ⟨i - W.length, by omega⟩
    subst hk
    obtain ⟨x, hx⟩ : ∃ x, P[k]? = some x := ⟨_, List.getElem?_eq_getElem (by omega)⟩
    have HV := Lib.hid (nodeV_place (W := W) hx)
    obtain ⟨b, o, rfl, hb⟩ := hs.at_ (by omega)
    have r0 := sl_int hs hx
    have h1 : (k : Int) < (P.length : Int) := by omega
    have h2 : (W.length : Int) ≤ 1000 := by omega
    have h5 : (P.length : Int) ≤ 1000 := by omega
    obtain ⟨j, hj⟩ : ∃ j : Int, ((W.length + k : Nat) : Int) = j := ⟨_, rfl⟩
    rw [hj]
    have e1 : j - (W.length : Int) = (k : Int) := by omega
    have e2 : IntKind.i64.wrap (j - (W.length : Int)) = (k : Int) := by rw [e1]; exact IntWalk.i64_in _ (by omega)
    have e3 : wrap64 (j - (W.length : Int)) = (k : Int) := by rw [e1]; unfold wrap64; omega
    clear hx hj
    go_enter Try.func80, Try.ntmps80
    go_wp2
    (go_ret; exact ⟨ret_int (by exact HV.out.symm), ext_of (by (try simp only [ext_ext]); repeat (first | exact Bel.refl _ | assumption | refine bel_and ?_ _ | refine bel_drews ?_ _ | refine Bel.ext ?_ _ | refine Bel.alloc ?_ _ | refine Bel.drewN ?_ _))⟩)
theorem node_lit (A B : Option Addr) (c d : Nat) (P W : List Int) (i : Nat) (v : Int) (hv : nodeV P W i = v) (w : World) (hs : Sl w 1 A P.length c (vi P)) (ht : Sl w 1 B W.length d (vi W)) (hP : P.length ≤ 1000) (hW : W.length ≤ 1000) (hi : i < W.length + P.length) :
    Calls Try.prog 80 #[.agg #[.slice A P.length c, .slice B W.length d], .int .i64 i] w fun e w' => e = .returned (.int .i64 v) ∧ ∃ x, w' = ext w x := hv ▸ node_any A B c d P W i w hs ht hP hW hi
set_option maxRecDepth 10000 in
set_option maxHeartbeats 1000000 in
theorem known1_any (A : Option Addr) (c : Nat) (l : List Pt) (id : Int) (mb : Nat) (w : World) (hm : Held w mb 0 (.slice A l.length c)) (hs : Sl w 3 A l.length c (vp l)) (hl : l.length ≤ 1000000) (hinc : incB l = true) :
    Calls Try.prog 103 #[.int .i64 id, .pointer (some ⟨mb, 0, none⟩)] w fun e w' => e = .returned (.bool (hasB l id || id == -1)) ∧ ∃ x, w' = ext w x := by
  have q := Lib.hid (fun W hb => bfind_any A c l id W (hs.bel (w' := W) hb) hl hinc)
  have c0 := hm.eq
  have c1 := hm.lt
  clear hm hinc
  cases hb : hasB l id with
  | true =>
    rw [hb] at q
    clear hb
    go_enter Try.func103, Try.ntmps103
    go_wp2_with ((go_at_call 104; refine (q.out _ (by (try simp only [ext_ext]); repeat (first | exact Bel.refl _ | assumption | refine bel_and ?_ _ | refine bel_drews ?_ _ | refine Bel.ext ?_ _ | refine Bel.alloc ?_ _ | refine Bel.drewN ?_ _))).mono ?_; rintro e _ ⟨rfl, nx, rfl⟩))
    (go_ret; exact ⟨ret_bool (by simp), ext_of (by (try simp only [ext_ext]); repeat (first | exact Bel.refl _ | assumption | refine bel_and ?_ _ | refine bel_drews ?_ _ | refine Bel.ext ?_ _ | refine Bel.alloc ?_ _ | refine Bel.drewN ?_ _))⟩)
  | false =>
    rw [hb] at q
    clear hb
    go_enter Try.func103, Try.ntmps103
    go_wp2_with ((go_at_call 104; refine (q.out _ (by (try simp only [ext_ext]); repeat (first | exact Bel.refl _ | assumption | refine bel_and ?_ _ | refine bel_drews ?_ _ | refine Bel.ext ?_ _ | refine Bel.alloc ?_ _ | refine Bel.drewN ?_ _))).mono ?_; rintro e _ ⟨rfl, nx, rfl⟩))
    (go_ret; exact ⟨ret_bool (by simp), ext_of (by (try simp only [ext_ext]); repeat (first | exact Bel.refl _ | assumption | refine bel_and ?_ _ | refine bel_drews ?_ _ | refine Bel.ext ?_ _ | refine Bel.alloc ?_ _ | refine Bel.drewN ?_ _))⟩)
theorem allB_known (l : List Pt) (P : List Int) : allB (fun k => hasB l (P.getD k 0) || P.getD k 0 == -1) P.length = knownB l P := by
  unfold allB knownB
  rw [Bool.eq_iff_iff, List.all_eq_true, List.all_eq_true]
  constructor
  · intro h x hx
    obtain ⟨k, hk⟩ := List.mem_iff_getElem?.1 hx
    have := h k (by simp; exact (List.getElem?_eq_some_iff.1 hk).1)
    rwa [List.getD_eq_getElem?_getD, hk] at this
  · intro h k hk
    have hk' : k < P.length := by simpa using hk
    have := h P[k] (List.getElem_mem hk')
    rwa [List.getD_eq_getElem?_getD, List.getElem?_eq_getElem hk']
set_option maxRecDepth 10000 in
set_option maxHeartbeats 1000000 in
theorem known_any (A B : Option Addr) (c d : Nat) (l : List Pt) (P : List Int) (w : World) (hs : Sl w 3 A l.length c (vp l)) (ht : Sl w 1 B P.length d (vi P)) (hl : l.length ≤ 1000000) (hP : P.length ≤ 1000000) (hinc : incB l = true) :
    Calls Try.prog 76 #[.agg #[.slice A l.length c], .slice B P.length d] w fun e w' => e = .returned (.bool (knownB l P)) ∧ ∃ x, w' = ext w x := by
  have q := Lib.hid (all_known B d P w.heap.size (fun _ W => Bel ((w.alloc (.cells #[.slice A l.length c] 24)).alloc (.cells #[.func (.func 103) #[] #[.pointer (some ⟨w.heap.size, 0, none⟩)]] 124)) W)
    (fun k => hasB l (P.getD k 0) || P.getD k 0 == -1) (w.alloc (.cells #[.slice A l.length c] 24)) hP (Bel.refl _)
    (fun _ W hW => (ht.bel (by (try simp only [ext_ext]); repeat (first | exact Bel.refl _ | assumption | refine bel_and ?_ _ | refine bel_drews ?_ _ | refine Bel.ext ?_ _ | refine Bel.alloc ?_ _ | refine Bel.drewN ?_ _))).bel hW)
    (fun _ W hW => Box.new hW rfl)
    (fun k x W hx hW => by
      have hx' : P.getD k 0 = x := by rw [List.getD_eq_getElem?_getD, hx]; rfl
      rw [hx']
      have hm : Held W w.heap.size 0 (.slice A l.length c) := (Held.new (W := w) (cs := #[.slice A l.length c]) (e := 24) (Bel.refl _) rfl).bel (Bel.trans (by (try simp only [ext_ext]); repeat (first | exact Bel.refl _ | assumption | refine bel_and ?_ _ | refine bel_drews ?_ _ | refine Bel.ext ?_ _ | refine Bel.alloc ?_ _ | refine Bel.drewN ?_ _)) hW)
      exact (known1_any A c l x w.heap.size W hm ((hs.bel (by (try simp only [ext_ext]); repeat (first | exact Bel.refl _ | assumption | refine bel_and ?_ _ | refine bel_drews ?_ _ | refine Bel.ext ?_ _ | refine Bel.alloc ?_ _ | refine Bel.drewN ?_ _))).bel hW) hl hinc).mono fun e w' ⟨he, y, hy⟩ => ⟨he, by rw [hy]; exact hW.trans (bel_ext _ _)⟩))
  rw [allB_known] at q
  clear hs ht hinc
  go_enter Try.func76, Try.ntmps76
  go_wp2_with (go_at_call 87; (with_reducible refine q.out.mono ?_); rintro e W2 ⟨rfl, k, hJ⟩)
  go_ret
  exact ⟨rfl, ext_of (Bel.trans (by (try simp only [ext_ext]); repeat (first | exact Bel.refl _ | assumption | refine bel_and ?_ _ | refine bel_drews ?_ _ | refine Bel.ext ?_ _ | refine Bel.alloc ?_ _ | refine Bel.drewN ?_ _)) hJ)⟩
set_option maxRecDepth 10000 in
set_option maxHeartbeats 2000000 in
theorem won_any (A : Option Addr) (c : Nat) (l : List Pt) (n d x y : Int) (w : World) (hn : -9223372036854775808 ≤ n ∧ n ≤ 9223372036854775807) (hd : -9223372036854775808 ≤ d ∧ d ≤ 9223372036854775807) (hs : Sl w 3 A l.length c (vp l)) (ht : timed l n d = 0) (hx : x < 0 ∨ hasB l x = true) (hy : y < 0 ∨ hasB l y = true) :
    Calls Try.prog 79 #[.agg #[.slice A l.length c], .agg #[.int .i64 n, .int .i64 d], .int .i64 x, .int .i64 y] w fun e w' => e = .returned (.int .i64 (wonV l n d x y)) ∧ ∃ x, w' = ext w x := by
  by_cases hneg : x < 0 ∨ y < 0
  · have HV := Lib.hid (show wonV l n d x y = if x < y then y else x by unfold wonV; rw [if_pos hneg])
    have HN := Lib.hid hneg
    clear hneg hx hy ht hn hd
    by_cases hxy : x < y
    · have h1 : x < 0 := by rcases HN.out with h | h <;> omega
      have HW := Lib.hid (show wonV l n d x y = y by rw [HV.out, if_pos hxy])
      clear HN HV
      have h2 : x ≤ y := by omega
      have h3 : ¬ y < x := by omega
      go_enter Try.func79, Try.ntmps79
      go_wp2
      (go_ret; exact ⟨ret_int (by rw [HW.out]; omega), ext_of (by (try simp only [ext_ext]); repeat (first | exact Bel.refl _ | assumption | refine bel_and ?_ _ | refine bel_drews ?_ _ | refine Bel.ext ?_ _ | refine Bel.alloc ?_ _ | refine Bel.drewN ?_ _))⟩)
    · have h1 : y < 0 := by rcases HN.out with h | h <;> omega
      have HW := Lib.hid (show wonV l n d x y = x by rw [HV.out, if_neg hxy])
      clear HN HV
      go_enter Try.func79, Try.ntmps79
      go_wp2
      (go_ret; exact ⟨ret_int (by rw [HW.out]; omega), ext_of (by (try simp only [ext_ext]); repeat (first | exact Bel.refl _ | assumption | refine bel_and ?_ _ | refine bel_drews ?_ _ | refine Bel.ext ?_ _ | refine Bel.alloc ?_ _ | refine Bel.drewN ?_ _))⟩)
  · obtain ⟨h0, h2, _⟩ := timed_zero ht
    obtain ⟨h64, hc, hinc⟩ := fieldChk_zero h0
    have hx0 : 0 ≤ x := by omega
    have hy0 : 0 ≤ y := by omega
    have hbx : hasB l x = true := by rcases hx with h | h; omega; exact h
    have hby : hasB l y = true := by rcases hy with h | h; omega; exact h
    obtain ⟨px, ex, mx⟩ := ptOf_eq hinc hbx
    obtain ⟨py, ey, my⟩ := ptOf_eq hinc hby
    have HV := Lib.hid (show wonV l n d x y = if leads (ptOf l x) (ptOf l y) n d = true then x else y by unfold wonV; rw [if_neg hneg])
    obtain ⟨p, hp⟩ : ∃ p, ptOf l x = p := ⟨_, rfl⟩
    obtain ⟨q, hq⟩ : ∃ q, ptOf l y = q := ⟨_, rfl⟩
    rw [hp] at px ex mx HV
    rw [hq] at py ey my HV
    obtain ⟨i, hi⟩ : ∃ i, lowB l x = i := ⟨_, rfl⟩
    obtain ⟨k, hk⟩ : ∃ k, lowB l y = k := ⟨_, rfl⟩
    rw [hi] at px
    rw [hk] at py
    have q1 := Lib.hid (fun W hb => bfind_any A c l x W (hs.bel (w' := W) hb) (by omega) hinc)
    have q2 := Lib.hid (fun W hb => bfind_any A c l y W (hs.bel (w' := W) hb) (by omega) hinc)
    rw [hi, hbx] at q1
    rw [hk, hby] at q2
    have hil := (List.getElem?_eq_some_iff.1 px).1
    have hkl := (List.getElem?_eq_some_iff.1 py).1
    obtain ⟨b, o, rfl, hb⟩ := hs.at_ (by omega)
    obtain ⟨r0, r1, r2⟩ := pt_at hs px
    obtain ⟨s0, s1, s2⟩ := pt_at hs py
    have hil' : (i : Int) < (l.length : Int) := by omega
    have hkl' : (k : Int) < (l.length : Int) := by omega
    have hA : ∀ W, Calls Try.prog 58 #[.agg #[.int .i64 p.id, .int .i64 p.a, .int .i64 p.b], .agg #[.int .i64 q.id, .int .i64 q.a, .int .i64 q.b], .agg #[.int .i64 n, .int .i64 d]] W fun e w' => e = .returned (.tuple #[.bool (leads p q n d), .int .i64 (aheadV p q n d).2]) ∧ ∃ y, w' = ext W y := by
      intro W
      have := ahead_any p q n d W hn hd
      have e1 : (aheadV p q n d).1 = leads p q n d := by
        unfold aheadV
        by_cases hid : p.id = q.id
        · have hpq : p = q := idsApart_inc hinc p mx q my hid
          rw [twoChk_same ⟨hc p mx, hc q my, h2⟩ hid, if_neg (by decide)]
          subst hpq
          cases hl2 : leads p p n d with
          | false => rfl
          | true => exact (leads_asymm hl2 hl2).elim
        · rw [twoChk_ok ⟨hc p mx, hc q my, h2⟩ hid, if_pos rfl]
      rwa [e1] at this
    have q3 := Lib.hid hA
    clear hs ht hx hy hbx hby hp hq hi hk px py ex ey mx my h0 h2 hc hinc hA hn hd hneg
    have hx1 : ¬ x < 0 := by omega
    have hy1 : ¬ y < 0 := by omega
    have hm : decide ((if x < y then x else y) < 0) = false := by rw [decide_eq_false_iff_not]; split <;> omega
    cases hl2 : leads p q n d with
    | true =>
      have HW := Lib.hid (show wonV l n d x y = x by rw [HV.out, hl2]; rfl)
      rw [hl2] at q3
      clear hl2 HV
      go_enter Try.func79, Try.ntmps79
      go_wp2_with (first | (go_at_call 104; (with_reducible refine (q1.out _ (by (try simp only [ext_ext]); repeat (first | exact Bel.refl _ | assumption | refine bel_and ?_ _ | refine bel_drews ?_ _ | refine Bel.ext ?_ _ | refine Bel.alloc ?_ _ | refine Bel.drewN ?_ _))).mono ?_); rintro e _ ⟨rfl, nx, rfl⟩) | (go_at_call 104; (with_reducible refine (q2.out _ (by (try simp only [ext_ext]); repeat (first | exact Bel.refl _ | assumption | refine bel_and ?_ _ | refine bel_drews ?_ _ | refine Bel.ext ?_ _ | refine Bel.alloc ?_ _ | refine Bel.drewN ?_ _))).mono ?_); rintro e _ ⟨rfl, nx, rfl⟩))
      ((first | refine RegC.wp_region_ext1 (by kernel_rfl) (by kernel_rfl) ?_ | refine RegC.wp_region_ext0 (by kernel_rfl) (by kernel_rfl) ?_); (repeat (any_goals (first | go_big_quiet_step ((go_at_call 58; with_reducible first | exact Calls.ext_of1 (q3.out _) | exact Calls.ext_of (q3.out _))) | (refine RegC.wpQuiet_split rfl rfl (fun hb => ?_) (fun hb => ?_) <;> simp only [hb])))); all_goals (refine wpQuiet_nil ?_; rintro _ ⟨nq, rfl⟩))
      go_wp2
      (go_ret; exact ⟨ret_int (by rw [HW.out]), ext_of (by (try simp only [ext_ext]); repeat (first | exact Bel.refl _ | assumption | refine bel_and ?_ _ | refine bel_drews ?_ _ | refine Bel.ext ?_ _ | refine Bel.alloc ?_ _ | refine Bel.drewN ?_ _))⟩)
    | false =>
      have HW := Lib.hid (show wonV l n d x y = y by rw [HV.out, hl2]; rfl)
      rw [hl2] at q3
      clear hl2 HV
      go_enter Try.func79, Try.ntmps79
      go_wp2_with (first | (go_at_call 104; (with_reducible refine (q1.out _ (by (try simp only [ext_ext]); repeat (first | exact Bel.refl _ | assumption | refine bel_and ?_ _ | refine bel_drews ?_ _ | refine Bel.ext ?_ _ | refine Bel.alloc ?_ _ | refine Bel.drewN ?_ _))).mono ?_); rintro e _ ⟨rfl, nx, rfl⟩) | (go_at_call 104; (with_reducible refine (q2.out _ (by (try simp only [ext_ext]); repeat (first | exact Bel.refl _ | assumption | refine bel_and ?_ _ | refine bel_drews ?_ _ | refine Bel.ext ?_ _ | refine Bel.alloc ?_ _ | refine Bel.drewN ?_ _))).mono ?_); rintro e _ ⟨rfl, nx, rfl⟩))
      ((first | refine RegC.wp_region_ext1 (by kernel_rfl) (by kernel_rfl) ?_ | refine RegC.wp_region_ext0 (by kernel_rfl) (by kernel_rfl) ?_); (repeat (any_goals (first | go_big_quiet_step ((go_at_call 58; with_reducible first | exact Calls.ext_of1 (q3.out _) | exact Calls.ext_of (q3.out _))) | (refine RegC.wpQuiet_split rfl rfl (fun hb => ?_) (fun hb => ?_) <;> simp only [hb])))); all_goals (refine wpQuiet_nil ?_; rintro _ ⟨nq, rfl⟩))
      go_wp2
      (go_ret; exact ⟨ret_int (by rw [HW.out]), ext_of (by (try simp only [ext_ext]); repeat (first | exact Bel.refl _ | assumption | refine bel_and ?_ _ | refine bel_drews ?_ _ | refine Bel.ext ?_ _ | refine Bel.alloc ?_ _ | refine Bel.drewN ?_ _))⟩)
end Go.Proofs.Ytkcpnclgcmnlcaa

namespace Go
open RowKit
open Go.Maps (Keyed)
structure MapT (P : Program) (t k e : TypeId) : Prop where
  und : P.underlying t = some (.map k e)
  key : P.underlying k = some (.int .i64)
  elem : P.underlying e = some .bool
  zero : ∀ w, (zeroValue e).run P w = .ok (.bool false) w
def wf64 (x : Int) : Prop := -9223372036854775808 ≤ x ∧ x ≤ 9223372036854775807
theorem wf64_lit {x : Int} (h : wf64 x) : (Lit.int .i64 x).wf = true := by
  unfold wf64 at h
  simp only [Lit.wf, Bool.and_eq_true, decide_eq_true_eq]
  exact ⟨h.1, h.2⟩
def MapB (P : Program) (k e : TypeId) (W : World) (b n : Nat) (f : Int → Bool) : Prop :=
  ∃ D : DataW Unit, W.ownsMap P k (plainElem P e) b n D ∧ ∀ x, wf64 x → D.atKey (.int .i64 x) (.lit (.bool false)) = .lit (.bool (f x))
theorem MapB.congr {P : Program} {k e : TypeId} {W : World} {b n : Nat} {f g : Int → Bool} (h : MapB P k e W b n f) (hg : ∀ x, f x = g x) : MapB P k e W b n g := by
  obtain ⟨D, h1, h2⟩ := h
  exact ⟨D, h1, fun x hx => by rw [h2 x hx, hg]⟩
theorem MapB.lt {P : Program} {k e : TypeId} {W : World} {b n : Nat} {f : Int → Bool} (h : MapB P k e W b n f) : b < W.heap.size := h.choose_spec.1.lt
theorem MapB.bel {P : Program} {k e : TypeId} {W W' : World} {b n : Nat} {f : Int → Bool} (h : MapB P k e W b n f) (hb : Bel W W') : MapB P k e W' b n f := by
  obtain ⟨D, h1, h2⟩ := h
  refine ⟨D, h1.kept (row := none) ⟨hb.os, hb.tape, hb.output, hb.size, fun k hk _ => hb.block k hk⟩ (by simp), h2⟩
theorem mapB_new (P : Program) (k e : TypeId) (w : World) : MapB P k e (w.alloc (.map #[] 0)) w.heap.size 0 (fun _ => false) :=
  ⟨.map [], World.ownsMap_made w P k _, fun _ _ => rfl⟩
theorem isMap_own {P : Program} {k : TypeId} {R : Value → Option (DataW Unit × List MemPlace)} {W : World} {b n : Nat} {D : DataW Unit} (h : W.ownsMap P k R b n D) : Maps.IsMap D := by
  obtain ⟨es, clock, _, _, _, hD⟩ := h; exact ⟨_, hD⟩
theorem MapB.store {P : Program} {t k e : TypeId} (hT : MapT P t k e) {W : World} {b n : Nat} {f : Int → Bool} (h : MapB P k e W b n f) (hn : n < maxLen) {x : Int} (hx : wf64 x) (v : Bool) :
    ∃ w', (Instr.mapUpdate t (.map (some b)) (.int .i64 x) (.bool v)).run P W = .ok () w' ∧ MapB P k e w' b (n + 1) (fun y => if y = x then v else f y) ∧ W.grownBy w' (some b) ∧ W.drawn ≤ w'.drawn := by
  obtain ⟨D, h1, h2⟩ := h
  obtain ⟨w', hrun, r1, r2⟩ := h1.update (Maps.int_keyed hT.key) hT.und hn (Maps.keyOf_int_mk hT.key (wf64_lit hx)) (plainElem_bool hT.elem v)
  refine ⟨w', hrun, ⟨_, r1, fun y hy => ?_⟩, r2, run_mono _ _ _ _ hrun⟩
  by_cases hyx : y = x
  · subst hyx; simp only [if_true]; exact Maps.atKey_put_same (isMap_own h1) (show WideAt.IsKeyLit (.int .i64 y) from trivial) _ _
  · simp only [if_neg hyx]; rw [Maps.atKey_put_other (by intro h; injection h with _ h; exact hyx h)]; exact h2 y hy
theorem MapB.look {P : Program} {t k e : TypeId} (hT : MapT P t k e) {W : World} {b n : Nat} {f : Int → Bool} (h : MapB P k e W b n f) {x : Int} (hx : wf64 x) :
    (Instr.lookup t (.map (some b)) (.int .i64 x) false).run P W = .ok (.bool (f x)) W := by
  obtain ⟨D, h1, h2⟩ := h
  obtain ⟨v, ps, hrun, hv⟩ := h1.lookup (Maps.int_keyed hT.key) hT.und (hT.zero W) (plainElem_bool hT.elem false) (Maps.keyOf_int_mk hT.key (wf64_lit hx))
  rw [h2 x hx] at hv
  have : v = .bool (f x) := by
    unfold plainElem at hv
    rw [hT.elem] at hv
    cases v <;> simp at hv
    rw [hv.1]
  rw [hrun, this]
section
variable {P : Program} {ops : Array Oper} {rest : List Oper} {o : Oper} {a : Act} {Q : Exit → Act → World → Prop} {w : World}
theorem wpList_look {t k e : TypeId} (hT : MapT P t k e) (hg : o.guard = none) (m x : Operand) (hop : o.op = Op.lookup t m x false) {b n : Nat} {f : Int → Bool} (h : MapB P k e w b n f) (hm : a.eval m = .map (some b)) {y : Int} (hx : a.eval x = .int .i64 y) (hy : wf64 y)
    (hK : wpList P ops Q rest (a.put o.dst (.bool (f y))) w) : wpList P ops Q (o :: rest) a w := by
  refine wpList_plain hg fun K' hK' => ?_
  have hrun := h.look hT hy
  unfold Oper.wp
  simp [execOp, hop, hm, hx, hrun, Result.andThen]
  exact hK' _ _ hK
theorem wpList_mapStore {t k e : TypeId} (hT : MapT P t k e) (hg : o.guard = none) (m x v : Operand) (hop : o.op = Op.mapUpdate t m x v) {b n : Nat} {f : Int → Bool} (h : MapB P k e w b n f) (hn : n < maxLen) (hm : a.eval m = .map (some b)) {y : Int} (hx : a.eval x = .int .i64 y) (hy : wf64 y) {u : Bool} (hv : a.eval v = .bool u)
    (hK : ∀ w', MapB P k e w' b (n + 1) (fun z => if z = y then u else f z) → w.grownBy w' (some b) → w.drawn ≤ w'.drawn → wpList P ops Q rest (a.put o.dst undef) w') : wpList P ops Q (o :: rest) a w := by
  refine wpList_plain hg fun K' hK' => ?_
  obtain ⟨w', hrun, r1, r2, r3⟩ := h.store hT hn hy u
  unfold Oper.wp
  simp [execOp, hop, hm, hx, hv, hrun, Result.andThen]
  exact hK' _ _ (hK w' r1 r2 r3)
theorem wpList_mapInsert {t k e : TypeId} (hT : MapT P t k e) (hg : o.guard = none) (m x v : Operand) (hop : o.op = Op.insert t m x v) {b n : Nat} {f : Int → Bool} (h : MapB P k e w b n f) (hn : n < maxLen) (hm : a.eval m = .map (some b)) {y : Int} (hx : a.eval x = .int .i64 y) (hy : wf64 y) {u : Bool} (hv : a.eval v = .bool u)
    (hK : ∀ w', MapB P k e w' b (n + 1) (fun z => if z = y then u else f z) → w.grownBy w' (some b) → w.drawn ≤ w'.drawn → wpList P ops Q rest (a.put o.dst undef) w') : wpList P ops Q (o :: rest) a w := by
  refine wpList_plain hg fun K' hK' => ?_
  obtain ⟨w', hrun, r1, r2, r3⟩ := h.store hT hn hy u
  unfold Oper.wp
  simp [execOp, hop, hm, hx, hv, hrun, Result.andThen]
  exact hK' _ _ (hK w' r1 r2 r3)
end
theorem Box.grown {W W' : World} {b m : Nat} {cs : Array Value} (h : Box W b cs) (hg : W.grownBy W' (some m)) (hne : b ≠ m) : Box W' b cs := by
  have hb : W'.heap[b]? = W.heap[b]? := hg.block b h.lt (by simpa using hne)
  exact ⟨Nat.lt_of_lt_of_le h.lt hg.size, fun j v hv => by have := h.eq j v hv; unfold World.cell? at this ⊢; rw [hb]; exact this, fun j => by have := h.fr j; unfold World.frozen? at this ⊢; rw [hb]; exact this⟩
end Go

namespace Go.Pel
open Go Go.RowKit
/-- no ID is there twice -/
def onceB (l : List Int) : Bool := allB (fun k => !(decide (0 ≤ l.getD k 0) && (l.take k).contains (l.getD k 0))) l.length
def seenF (l : List Int) (k : Nat) (x : Int) : Bool := decide (0 ≤ x) && (l.take k).contains x
theorem seen_step {l : List Int} {k : Nat} {x : Int} (h : l[k]? = some x) (y : Int) : (if y = x then decide (0 ≤ x) else seenF l k y) = seenF l (k + 1) y := by
  unfold seenF
  rw [List.take_add_one, h]
  by_cases hy : y = x
  · subst hy; simp
  · rw [if_neg hy]; simp [hy]
end Go.Pel
namespace Go.Proofs.Ytkcpnclgcmnlcaa
open Go.RowKit Go.Pel
theorem mapT_seen : MapT Try.prog 140 3 4 := ⟨by kernel_rfl, by kernel_rfl, by kernel_rfl, fun _ => by kernel_rfl⟩
set_option maxRecDepth 10000 in
set_option maxHeartbeats 1000000 in
theorem once1_any (x : Int) (b0 b1 n : Nat) (f : Int → Bool) (w : World) (hm : MapB Try.prog 3 4 w b0 n f) (hb : Box w b1 #[.map (some b0)]) (hx : wf64 x) (hn : n < maxLen) :
    Calls Try.prog 105 #[.int .i64 x, .pointer (some ⟨b1, 0, none⟩)] w fun e w' => e = .returned (.bool (!(f x))) ∧ MapB Try.prog 3 4 w' b0 (n + 1) (fun y => if y = x then decide (0 ≤ x) else f y) ∧ w.grownBy w' (some b0) ∧ w.drawn ≤ w'.drawn := by
  have c0 := hb.eq 0 (.map (some b0)) rfl
  have c1 := hb.lt
  have HM := Lib.hid hm
  have HX := Lib.hid hx
  have HN := Lib.hid hn
  clear hb hm hx hn
  obtain ⟨v, hv⟩ : ∃ v, f x = v := ⟨_, rfl⟩
  have HV := Lib.hid hv
  obtain ⟨u, hu⟩ : ∃ u, decide (0 ≤ x) = u := ⟨_, rfl⟩
  have HU := Lib.hid hu
  rw [hv, hu]
  clear hv hu
  go_enter Try.func105, Try.ntmps105
  go_wp2_with (first
    | (at_lookup; refine wpList_look mapT_seen rfl _ _ rfl HM.out rfl rfl HX.out ?_; rw [HV.out])
    | (at_mapUpdate; refine wpList_mapStore mapT_seen rfl _ _ _ rfl HM.out HN.out rfl rfl HX.out rfl ?_; rw [HU.out]; intro w1 hm1 hg1 hd1))
  go_ret
  exact ⟨by simp, hm1, hg1, hd1⟩
set_option maxRecDepth 10000 in
set_option maxHeartbeats 2000000 in
theorem once_any (A : Option Addr) (c : Nat) (l : List Int) (w : World) (hs : Sl w 1 A l.length c (vi l)) (hl : l.length ≤ 1000000) (hf : ∀ x ∈ l, wf64 x) :
    Calls Try.prog 77 #[.slice A l.length c] w fun e w' => e = .returned (.bool (onceB l)) ∧ ∃ x, w' = ext w x := by
  have hmm := @run_makeMap Try.prog
  have HF := Lib.hid hf
  clear hf
  have hm0 := Lib.hid (mapB_new Try.prog 3 4 w)
  have hn1 : Hid (0 < maxLen) := Lib.hid (by unfold maxLen; decide)
  have hw1 : Hid (wf64 (-1)) := Lib.hid (by unfold wf64; omega)
  obtain ⟨v, hv⟩ : ∃ v, onceB l = v := ⟨_, rfl⟩
  rw [hv]
  have HV := Lib.hid hv
  clear hv
  go_enter Try.func77, Try.ntmps77
  go_wp2_with (refine wpList_mapInsert mapT_seen rfl _ _ _ rfl hm0.out hn1.out rfl rfl hw1.out rfl ?_; intro w1 hm1 hg1 hd1)
  have hb1 : Bel w w1 := ((Bel.refl w).alloc _).grown hg1 (fun k hk => by cases hk; exact Nat.le_refl _) hd1
  have hlt := hm1.lt
  have hm2 : MapB Try.prog 3 4 w1 w.heap.size 1 (seenF l 0) := hm1.congr (fun x => by unfold seenF; simp)
  refine (all_once A c l w1.heap.size (fun k W => MapB Try.prog 3 4 W w.heap.size (k + 1) (seenF l k) ∧ Box W w1.heap.size #[.map (some w.heap.size)] ∧ Box W (w1.alloc (.cells #[.map (some w.heap.size)] 140)).heap.size #[.func (.func 105) #[] #[.pointer (some ⟨w1.heap.size, 0, none⟩)]] ∧ Bel w W)
    (fun k => !(decide (0 ≤ l.getD k 0) && (l.take k).contains (l.getD k 0))) _ hl
    ⟨hm2.bel (by (try simp only [ext_ext]); repeat (first | exact Bel.refl _ | assumption | refine bel_and ?_ _ | refine bel_drews ?_ _ | refine Bel.ext ?_ _ | refine Bel.alloc ?_ _ | refine Bel.drewN ?_ _)), Box.new (W := w1) (e := 140) (by (try simp only [ext_ext]); repeat (first | exact Bel.refl _ | assumption | refine bel_and ?_ _ | refine bel_drews ?_ _ | refine Bel.ext ?_ _ | refine Bel.alloc ?_ _ | refine Bel.drewN ?_ _)) rfl, Box.new (Bel.refl _) rfl, Bel.trans hb1 (by (try simp only [ext_ext]); repeat (first | exact Bel.refl _ | assumption | refine bel_and ?_ _ | refine bel_drews ?_ _ | refine Bel.ext ?_ _ | refine Bel.alloc ?_ _ | refine Bel.drewN ?_ _))⟩
    (fun k W h => hs.bel h.2.2.2) (fun k W h => h.2.2.1) ?_).mono ?_
  · intro k x W hx ⟨h1, h2, h3, h4⟩
    have hk := (List.getElem?_eq_some_iff.1 hx).1
    have hxe : l.getD k 0 = x := by rw [List.getD_eq_getElem?_getD, hx]; rfl
    refine (once1_any x w.heap.size w1.heap.size (k + 1) (seenF l k) W h1 h2 (HF.out x (List.mem_of_getElem? hx)) (by unfold maxLen; omega)).mono ?_
    rintro e W2 ⟨rfl, g1, g2, g3⟩
    refine ⟨by rw [hxe]; rfl, g1.congr (seen_step hx), h2.grown g2 (by omega), h3.grown g2 (by simp; omega), h4.grown g2 (fun k hk => by cases hk; exact Nat.le_refl _) g3⟩
  · rintro e W2 ⟨he, k, h⟩
    obtain rfl : e = .returned (.bool v) := by rw [← HV.out]; exact he
    clear he
    go_wp2
    go_ret
    exact ⟨rfl, ext_of h.2.2.2⟩
end Go.Proofs.Ytkcpnclgcmnlcaa

namespace Go.Pel
open Go Go.RowKit
def winOk (P W : List Int) (i : Nat) : Bool := (W.getD i 0 == nodeV P W (2 * i + 1) || W.getD i 0 == nodeV P W (2 * i + 2)) && !(decide (W.getD i 0 < 0) && decide (0 ≤ max (nodeV P W (2 * i + 1)) (nodeV P W (2 * i + 2))))
def winR (P W : List Int) (i : Nat) : Bool := (W.getD i 0 == nodeV P W (2 * i + 1) || W.getD i 0 == nodeV P W (2 * i + 2)) && !(W.getD i 0 == -1 && (nodeV P W (2 * i + 1) != -1 || nodeV P W (2 * i + 2) != -1))
def inIds (x : Int) : Bool := decide (-1 ≤ x) && decide (x ≤ 65535)
def shapeOk (P W : List Int) : Bool := decide (1 ≤ P.length) && decide (P.length ≤ 64) && decide (W.length + 1 = P.length) && onceB P
/-- P10.1 -/
def brOk (P W : List Int) : Bool := shapeOk P W && allB (fun k => inIds (P.getD k 0)) P.length && allB (winOk P W) W.length
def brChk (P W : List Int) : Int := if brOk P W then 0 else 8
theorem brChk_shape {P W : List Int} (h : shapeOk P W = false) : brChk P W = 8 := by unfold brChk brOk; rw [h]; rfl
theorem brChk_ids {P W : List Int} (h : allB (fun k => inIds (P.getD k 0)) P.length = false) : brChk P W = 8 := by unfold brChk brOk; rw [h]; simp
theorem brChk_wins {P W : List Int} (h : allB (winOk P W) W.length = false) : brChk P W = 8 := by unfold brChk brOk; rw [h]; simp
theorem brChk_ok {P W : List Int} (h1 : shapeOk P W = true) (h2 : allB (fun k => inIds (P.getD k 0)) P.length = true) (h3 : allB (winOk P W) W.length = true) : brChk P W = 0 := by unfold brChk brOk; rw [h1, h2, h3]; rfl
theorem shape_parts {P W : List Int} (h : shapeOk P W = true) : 1 ≤ P.length ∧ P.length ≤ 64 ∧ W.length + 1 = P.length ∧ onceB P = true := by
  unfold shapeOk at h; simp only [Bool.and_eq_true, decide_eq_true_eq] at h; exact ⟨h.1.1.1, h.1.1.2, h.1.2, h.2⟩
theorem allB_iff {p : Nat → Bool} {n : Nat} : allB p n = true ↔ ∀ k, k < n → p k = true := by
  unfold allB; rw [List.all_eq_true]; exact ⟨fun h k hk => h k (by simpa using hk), fun h k hk => h k (by simpa using hk)⟩
theorem brChk_zero {P W : List Int} (h : brChk P W = 0) : shapeOk P W = true ∧ (∀ k, k < P.length → inIds (P.getD k 0) = true) ∧ ∀ i, i < W.length → winOk P W i = true := by
  unfold brChk at h
  split at h
  · rename_i h1; unfold brOk at h1; simp only [Bool.and_eq_true] at h1
    exact ⟨h1.1.1, allB_iff.1 h1.1.2, allB_iff.1 h1.2⟩
  · omega
theorem brChk_cases (P W : List Int) : brChk P W = 0 ∨ brChk P W = 8 := by unfold brChk; split <;> simp
/-- in a tree in which each inner node is one of those below it, no node is less than -1 -/
theorem node_ge {P W : List Int} (hl : W.length + 1 = P.length) (hP : ∀ k, k < P.length → inIds (P.getD k 0) = true) (hW : ∀ i, i < W.length → (W.getD i 0 == nodeV P W (2 * i + 1) || W.getD i 0 == nodeV P W (2 * i + 2)) = true) :
    ∀ (m j : Nat), j + m = W.length + P.length → 0 < m → -1 ≤ nodeV P W j := by
  intro m
  induction m using Nat.strongRecOn with
  | _ m ih =>
    intro j hj hm
    by_cases h : j < W.length
    · have e : nodeV P W j = W.getD j 0 := by unfold nodeV; rw [if_pos h]
      have h1 := ih (m - (j + 1)) (by omega) (2 * j + 1) (by omega) (by omega)
      have h2 := ih (m - (j + 2)) (by omega) (2 * j + 2) (by omega) (by omega)
      have h3 := hW j h
      rw [Bool.or_eq_true, beq_iff_eq, beq_iff_eq] at h3
      rw [e]
      rcases h3 with h3 | h3 <;> omega
    · have e : nodeV P W j = P.getD (j - W.length) 0 := by unfold nodeV; rw [if_neg h]
      have := hP (j - W.length) (by omega)
      unfold inIds at this
      simp only [Bool.and_eq_true, decide_eq_true_eq] at this
      rw [e]; omega
theorem win_same {P W : List Int} (hl : W.length + 1 = P.length) (hP : allB (fun k => inIds (P.getD k 0)) P.length = true) : allB (winOk P W) W.length = allB (winR P W) W.length := by
  have hP' := allB_iff.1 hP
  by_cases hc : ∀ i, i < W.length → (W.getD i 0 == nodeV P W (2 * i + 1) || W.getD i 0 == nodeV P W (2 * i + 2)) = true
  · have hge := node_ge hl hP' hc
    rw [Bool.eq_iff_iff, allB_iff, allB_iff]
    have : ∀ i, i < W.length → (winOk P W i = true ↔ winR P W i = true) := by
      intro i hi
      have h0 := hge (W.length + P.length - i) i (by omega) (by omega)
      have h1 := hge (W.length + P.length - (2 * i + 1)) (2 * i + 1) (by omega) (by omega)
      have h2 := hge (W.length + P.length - (2 * i + 2)) (2 * i + 2) (by omega) (by omega)
      have e : nodeV P W i = W.getD i 0 := by unfold nodeV; rw [if_pos hi]
      rw [e] at h0
      unfold winOk winR
      rw [hc i hi]
      generalize W.getD i 0 = a at *
      generalize nodeV P W (2 * i + 1) = x at *
      generalize nodeV P W (2 * i + 2) = y at *
      by_cases ha : a < 0
      · have : a = -1 := by omega
        subst this
        by_cases hx : x = -1 <;> by_cases hy : y = -1 <;> simp [hx, hy] <;> omega
      · have : (a == -1) = false := by rw [beq_eq_false_iff_ne]; omega
        simp [ha, this]
    exact ⟨fun h i hi => (this i hi).1 (h i hi), fun h i hi => (this i hi).2 (h i hi)⟩
  · have : ∃ i, i < W.length ∧ (W.getD i 0 == nodeV P W (2 * i + 1) || W.getD i 0 == nodeV P W (2 * i + 2)) = false := by
      apply Classical.byContradiction
      intro h
      apply hc
      intro i hi
      cases hq : (W.getD i 0 == nodeV P W (2 * i + 1) || W.getD i 0 == nodeV P W (2 * i + 2)) with
      | true => rfl
      | false => exact absurd ⟨i, hi, hq⟩ h
    obtain ⟨i, hi, hq⟩ := this
    rw [allB_no hi (by unfold winOk; rw [hq]; rfl), allB_no hi (by unfold winR; rw [hq]; rfl)]
/-- the places that hold a valid bracket's winners -/
theorem getD_some {l : List Int} {k : Nat} {x : Int} (h : l[k]? = some x) : l.getD k 0 = x := by rw [List.getD_eq_getElem?_getD, h]; rfl
theorem twice_no {l : List Int} (h : ∀ (i k : Nat) (x : Int), k < i → l[i]? = some x → 0 ≤ x → l[k]? ≠ some x) : onceB l = true := by
  unfold onceB
  refine allB_yes fun i hi => ?_
  obtain ⟨x, hx⟩ : ∃ x, l[i]? = some x := ⟨_, List.getElem?_eq_getElem hi⟩
  rw [getD_some hx]
  by_cases h0 : 0 ≤ x
  · have : (l.take i).contains x = false := by
      rw [← Bool.not_eq_true, List.contains_iff_mem]
      intro hm
      obtain ⟨k, hk⟩ := List.mem_iff_getElem?.1 hm
      rw [List.getElem?_take] at hk
      split at hk
      · exact h i k x ‹_› hx h0 hk
      · cases hk
    rw [this]; simp
  · simp [h0]
theorem twice_yes {l : List Int} {i k : Nat} {x : Int} (hk : k < i) (hi : l[i]? = some x) (h0 : 0 ≤ x) (hx : l[k]? = some x) : onceB l = false := by
  unfold onceB
  refine allB_no (List.getElem?_eq_some_iff.1 hi).1 ?_
  rw [getD_some hi]
  have : (l.take i).contains x = true := by
    rw [List.contains_iff_mem]
    exact List.mem_iff_getElem?.2 ⟨k, by rw [List.getElem?_take, if_pos hk]; exact hx⟩
  rw [this]; simp [h0]
end Go.Pel

namespace Go.Proofs.Ytkcpnclgcmnlcaa
open Go.RowKit Go.Pel
theorem node_int (A B : Option Addr) (c d : Nat) (P W : List Int) (i : Nat) (j v : Int) (hj : j = (i : Int)) (hv : nodeV P W i = v) (w : World) (hs : Sl w 1 A P.length c (vi P)) (ht : Sl w 1 B W.length d (vi W)) (hP : P.length ≤ 1000) (hW : W.length ≤ 1000) (hi : i < W.length + P.length) :
    Calls Try.prog 80 #[.agg #[.slice A P.length c, .slice B W.length d], .int .i64 j] w fun e w' => e = .returned (.int .i64 v) ∧ ∃ x, w' = ext w x := by subst hj; exact node_lit A B c d P W i v hv w hs ht hP hW hi
set_option maxHeartbeats 400000 in
theorem chk1_any (x : Int) (w : World) : Calls Try.prog 88 #[.int .i64 x] w fun e w' => e = .returned (.bool (inIds x)) ∧ ∃ x, w' = ext w x := by
  by_cases h1 : -1 ≤ x
  · by_cases h2 : x ≤ 65535
    · have H := Lib.hid (show inIds x = true by unfold inIds; simp [h1, h2])
      have e1 : decide (-1 ≤ x) = true := by simpa using h1
      have e2 : decide (x ≤ 65535) = true := by simpa using h2
      go_enter Try.func88, Try.ntmps88
      go_wp2
      (go_ret; exact ⟨ret_bool (by rw [H.out]), ext_of (by (try simp only [ext_ext]); repeat (first | exact Bel.refl _ | assumption | refine bel_and ?_ _ | refine bel_drews ?_ _ | refine Bel.ext ?_ _ | refine Bel.alloc ?_ _ | refine Bel.drewN ?_ _))⟩)
    · have H := Lib.hid (show inIds x = false by unfold inIds; simp [h1, h2])
      have e1 : decide (-1 ≤ x) = true := by simpa using h1
      have e2 : decide (x ≤ 65535) = false := by simpa using h2
      go_enter Try.func88, Try.ntmps88
      go_wp2
      (go_ret; exact ⟨ret_bool (by rw [H.out]), ext_of (by (try simp only [ext_ext]); repeat (first | exact Bel.refl _ | assumption | refine bel_and ?_ _ | refine bel_drews ?_ _ | refine Bel.ext ?_ _ | refine Bel.alloc ?_ _ | refine Bel.drewN ?_ _))⟩)
  · have H := Lib.hid (show inIds x = false by unfold inIds; simp [h1])
    have e1 : decide (-1 ≤ x) = false := by simpa using h1
    go_enter Try.func88, Try.ntmps88
    go_wp2
    (go_ret; exact ⟨ret_bool (by rw [H.out]), ext_of (by (try simp only [ext_ext]); repeat (first | exact Bel.refl _ | assumption | refine bel_and ?_ _ | refine bel_drews ?_ _ | refine Bel.ext ?_ _ | refine Bel.alloc ?_ _ | refine Bel.drewN ?_ _))⟩)
set_option maxHeartbeats 1000000 in
theorem all_ids (A : Option Addr) (c : Nat) (P : List Int) (w : World) (hs : Sl w 1 A P.length c (vi P)) (hP : P.length ≤ 1000) :
    Calls Try.prog 87 #[.slice A P.length c, .func (.func 88) #[] #[]] w fun e w' => e = .returned (.bool (allB (fun k => inIds (P.getD k 0)) P.length)) ∧ ∃ x, w' = ext w x :=
  (all_chk A c P (fun _ W => Bel (w.alloc (.cells #[.func (.func 88) #[] #[]] 124)) W) (fun k => inIds (P.getD k 0)) w (by omega) (Bel.refl _) (fun _ W hW => (hs.bel ((Bel.refl _).alloc _)).bel hW) (fun _ W hW => Box.new hW rfl)
    (fun k x W hx hW => by
      rw [getD_some hx]
      exact (chk1_any x W).mono fun e w' ⟨he, y, hy⟩ => ⟨he, by rw [hy]; exact hW.trans (bel_ext _ _)⟩)).mono fun e w' ⟨he, k, hk⟩ => ⟨he, ext_of (Bel.trans ((Bel.refl _).alloc _) hk)⟩
set_option maxRecDepth 10000 in
set_option maxHeartbeats 4000000 in
theorem bcheck_any (A B : Option Addr) (c d : Nat) (P W : List Int) (w : World) (hs : Sl w 1 A P.length c (vi P)) (ht : Sl w 1 B W.length d (vi W)) (hP : P.length ≤ 1000) (hW : W.length ≤ 1000) (hf : ∀ x ∈ P, wf64 x) :
    Calls Try.prog 43 #[.agg #[.slice A P.length c, .slice B W.length d]] w fun e w' => e = .returned (.int .i64 (brChk P W)) ∧ ∃ x, w' = ext w x := by
  have q1 := Lib.hid (fun W' hb => once_any A c P W' (hs.bel (w' := W') hb) (by omega) hf)
  have q2 := Lib.hid (fun W' hb => all_ids A c P W' (hs.bel (w' := W') hb) hP)
  have q3 := Lib.hid (fun W' hb i j v hj hv hi => node_int A B c d P W i j v hj hv W' (hs.bel (w' := W') hb) (ht.bel hb) hP hW hi)
  obtain ⟨r, hr⟩ : ∃ r, brChk P W = r := ⟨_, rfl⟩
  rw [hr]
  have HR := Lib.hid hr
  clear hr hf
  by_cases h1 : P.length < 1
  · have H : Hid (r = 8) := Lib.hid (by rw [← HR.out]; exact brChk_shape (by unfold shapeOk; simp; omega))
    have h1' : (P.length : Int) < 1 := by omega
    clear hs ht hP hW
    go_enter Try.func43, Try.ntmps43
    go_wp2
    (go_ret; exact ⟨ret_int (by exact H.out.symm), ext_of (by (try simp only [ext_ext]); repeat (first | exact Bel.refl _ | assumption | refine bel_and ?_ _ | refine bel_drews ?_ _ | refine Bel.ext ?_ _ | refine Bel.alloc ?_ _ | refine Bel.drewN ?_ _))⟩)
  by_cases h2 : 64 < P.length
  · have H : Hid (r = 8) := Lib.hid (by rw [← HR.out]; exact brChk_shape (by unfold shapeOk; simp; omega))
    have h1' : ¬ (P.length : Int) < 1 := by omega
    have h2' : (64 : Int) < (P.length : Int) := by omega
    clear hs ht hP hW
    go_enter Try.func43, Try.ntmps43
    go_wp2
    (go_ret; exact ⟨ret_int (by exact H.out.symm), ext_of (by (try simp only [ext_ext]); repeat (first | exact Bel.refl _ | assumption | refine bel_and ?_ _ | refine bel_drews ?_ _ | refine Bel.ext ?_ _ | refine Bel.alloc ?_ _ | refine Bel.drewN ?_ _))⟩)
  have h1' : ¬ (P.length : Int) < 1 := by omega
  have h2' : ¬ (64 : Int) < (P.length : Int) := by omega
  have hb1 : (P.length : Int) ≤ 64 := by omega
  by_cases h3 : W.length + 1 = P.length
  case neg =>
    have H : Hid (r = 8) := Lib.hid (by rw [← HR.out]; exact brChk_shape (by unfold shapeOk; simp [h3]))
    have h3' : ((W.length : Int) != (P.length : Int) - 1) = true := by rw [bne_iff_ne]; omega
    clear hs ht hP hW
    go_enter Try.func43, Try.ntmps43
    go_wp2
    (go_ret; exact ⟨ret_int (by exact H.out.symm), ext_of (by (try simp only [ext_ext]); repeat (first | exact Bel.refl _ | assumption | refine bel_and ?_ _ | refine bel_drews ?_ _ | refine Bel.ext ?_ _ | refine Bel.alloc ?_ _ | refine Bel.drewN ?_ _))⟩)
  have h3' : ((W.length : Int) != (P.length : Int) - 1) = false := by rw [bne_eq_false_iff_eq]; omega
  have hb2 : (W.length : Int) ≤ 63 := by omega
  have HL := Lib.hid h3
  cases ho : onceB P with
  | false =>
    have H : Hid (r = 8) := Lib.hid (by rw [← HR.out]; exact brChk_shape (by unfold shapeOk; rw [ho]; simp))
    rw [ho] at q1
    clear hs ht hP hW ho h3
    go_enter Try.func43, Try.ntmps43
    go_wp2_with ((go_at_call 77; (with_reducible refine (q1.out _ (by (try simp only [ext_ext]); repeat (first | exact Bel.refl _ | assumption | refine bel_and ?_ _ | refine bel_drews ?_ _ | refine Bel.ext ?_ _ | refine Bel.alloc ?_ _ | refine Bel.drewN ?_ _))).mono ?_); rintro e _ ⟨rfl, nx, rfl⟩))
    (go_ret; exact ⟨ret_int (by exact H.out.symm), ext_of (by (try simp only [ext_ext]); repeat (first | exact Bel.refl _ | assumption | refine bel_and ?_ _ | refine bel_drews ?_ _ | refine Bel.ext ?_ _ | refine Bel.alloc ?_ _ | refine Bel.drewN ?_ _))⟩)
  | true =>
  rw [ho] at q1
  have HSh : Hid (shapeOk P W = true) := Lib.hid (by unfold shapeOk; rw [ho]; simp; omega)
  cases ha : allB (fun k => inIds (P.getD k 0)) P.length with
  | false =>
    have H : Hid (r = 8) := Lib.hid (by rw [← HR.out]; exact brChk_ids ha)
    rw [ha] at q2
    clear hs ht hP hW ho h3 ha
    go_enter Try.func43, Try.ntmps43
    go_wp2_with (first | (go_at_call 77; (with_reducible refine (q1.out _ (by (try simp only [ext_ext]); repeat (first | exact Bel.refl _ | assumption | refine bel_and ?_ _ | refine bel_drews ?_ _ | refine Bel.ext ?_ _ | refine Bel.alloc ?_ _ | refine Bel.drewN ?_ _))).mono ?_); rintro e _ ⟨rfl, nx, rfl⟩) | (go_at_call 87; (with_reducible refine (q2.out _ (by (try simp only [ext_ext]); repeat (first | exact Bel.refl _ | assumption | refine bel_and ?_ _ | refine bel_drews ?_ _ | refine Bel.ext ?_ _ | refine Bel.alloc ?_ _ | refine Bel.drewN ?_ _))).mono ?_); rintro e _ ⟨rfl, nx, rfl⟩))
    (go_ret; exact ⟨ret_int (by exact H.out.symm), ext_of (by (try simp only [ext_ext]); repeat (first | exact Bel.refl _ | assumption | refine bel_and ?_ _ | refine bel_drews ?_ _ | refine Bel.ext ?_ _ | refine Bel.alloc ?_ _ | refine Bel.drewN ?_ _))⟩)
  | true =>
  rw [ha] at q2
  have HA := Lib.hid ha
  have HP := Lib.hid hP
  have HW := Lib.hid hW
  clear ho ha hP hW h3
  go_enter Try.func43, Try.ntmps43
  go_wp2_with (first | (go_at_call 77; (with_reducible refine (q1.out _ (by (try simp only [ext_ext]); repeat (first | exact Bel.refl _ | assumption | refine bel_and ?_ _ | refine bel_drews ?_ _ | refine Bel.ext ?_ _ | refine Bel.alloc ?_ _ | refine Bel.drewN ?_ _))).mono ?_); rintro e _ ⟨rfl, n1, rfl⟩) | (go_at_call 87; (with_reducible refine (q2.out _ (by (try simp only [ext_ext]); repeat (first | exact Bel.refl _ | assumption | refine bel_and ?_ _ | refine bel_drews ?_ _ | refine Bel.ext ?_ _ | refine Bel.alloc ?_ _ | refine Bel.drewN ?_ _))).mono ?_); rintro e _ ⟨rfl, n2, rfl⟩))
  obtain ⟨V, hV⟩ : ∃ V, ext (w.alloc (.cells #[.slice A P.length c, .slice B W.length d] 47)) (n1.and n2) = V := ⟨_, rfl⟩
  have hb : Bel w V := by rw [← hV]; exact (by (try simp only [ext_ext]); repeat (first | exact Bel.refl _ | assumption | refine bel_and ?_ _ | refine bel_drews ?_ _ | refine Bel.ext ?_ _ | refine Bel.alloc ?_ _ | refine Bel.drewN ?_ _))
  have BX : Box V w.heap.size #[.slice A P.length c, .slice B W.length d] := Box.new (W := w) (e := 47) (by rw [← hV]; exact (by (try simp only [ext_ext]); repeat (first | exact Bel.refl _ | assumption | refine bel_and ?_ _ | refine bel_drews ?_ _ | refine Bel.ext ?_ _ | refine Bel.alloc ?_ _ | refine Bel.drewN ?_ _))) rfl
  rw [hV]
  clear hV
  go_loopw [38] (fun i wr => ∃ k : Nat, k ≤ W.length ∧ i = .int .i64 k ∧ (∀ j, j < k → winOk P W j = true) ∧ Bel V wr) (fun i _ => W.length - (intOf i).toNat)
  case atStart => exact ⟨0, Nat.zero_le _, rfl, (fun j h => absurd h (Nat.not_lt_zero j)), Bel.refl _⟩
  case round =>
    obtain ⟨k, hk, rfl, hw1, hB⟩ := hrel
    have H1 := Lib.hid hw1
    clear hw1
    replace hb := hb.trans hB
    replace BX := BX.bel hB
    by_cases hlt : k < W.length
    · obtain ⟨u, hu⟩ : ∃ u, W[k]? = some u := ⟨_, List.getElem?_eq_getElem hlt⟩
      obtain ⟨bB, oB, rfl, hbB⟩ := ht.at_ (by omega)
      have r0 := sl_int (ht.bel hb) hu
      have rl := hb.le
      obtain ⟨x, hx⟩ : ∃ x, nodeV P W (2 * k + 1) = x := ⟨_, rfl⟩
      obtain ⟨y, hy⟩ : ∃ y, nodeV P W (2 * k + 2) = y := ⟨_, rfl⟩
      have q4 := Lib.hid (fun W' hb' => q3.out W' hb' (2 * k + 1) (2 * (k : Int) + 1) x (by omega) hx (by have := HL.out; omega))
      have q5 := Lib.hid (fun W' hb' => q3.out W' hb' (2 * k + 2) (2 * (k : Int) + 2) y (by omega) hy (by have := HL.out; omega))
      have HV : Hid (winOk P W k = ((u == x || u == y) && !(decide (u < 0) && decide (0 ≤ max x y)))) := Lib.hid (by unfold winOk; rw [getD_some hu, hx, hy])
      have hlt' : (k : Int) < (W.length : Int) := by omega
      have e1 : IntKind.i64.wrap (2 * (k : Int)) = 2 * (k : Int) := IntWalk.i64_in _ (by omega)
      have e2 : IntKind.i64.wrap (2 * (k : Int) + 1) = 2 * (k : Int) + 1 := IntWalk.i64_in _ (by omega)
      have e3 : IntKind.i64.wrap (2 * (k : Int) + 2) = 2 * (k : Int) + 2 := IntWalk.i64_in _ (by omega)
      have xe := BX.eq 0 (.slice A P.length c) rfl
      have xf := BX.eq 1 (.slice (some ⟨bB, oB, none⟩) W.length d) rfl
      have xl := BX.lt
      clear hu hx hy
      by_cases h1 : u = x
      · have h2 : True := trivial
        by_cases h3 : u < 0
        · by_cases h4 : 0 ≤ max x y
          · have z1 : (u != x) = false := by simpa using h1
            have z3 : decide (u < 0) = true := by simpa using h3
            have z4 : decide (0 ≤ max x y) = true := by simpa using h4
            have HB : Hid (r = 8) := Lib.hid (by rw [← HR.out]; exact brChk_wins (allB_no hlt (by rw [HV.out, show (u == x) = true by simpa using h1, z3, z4]; rfl)))
            clear h1 h2 h3 h4 HV
            go_wp2
            ((first | refine RegC.wp_region_ext1 (by kernel_rfl) (by kernel_rfl) ?_ | refine RegC.wp_region_ext0 (by kernel_rfl) (by kernel_rfl) ?_); (repeat (any_goals (first | go_big_quiet_step (first | (go_at_call 80; with_reducible first | exact Calls.ext_of1 (q4.out _ (Bel.trans hb (by (try simp only [ext_ext]); repeat (first | exact Bel.refl _ | assumption | refine bel_and ?_ _ | refine bel_drews ?_ _ | refine Bel.ext ?_ _ | refine Bel.alloc ?_ _ | refine Bel.drewN ?_ _)))) | exact Calls.ext_of (q4.out _ (Bel.trans hb (by (try simp only [ext_ext]); repeat (first | exact Bel.refl _ | assumption | refine bel_and ?_ _ | refine bel_drews ?_ _ | refine Bel.ext ?_ _ | refine Bel.alloc ?_ _ | refine Bel.drewN ?_ _)))) | exact Calls.ext_of1 (q5.out _ (Bel.trans hb (by (try simp only [ext_ext]); repeat (first | exact Bel.refl _ | assumption | refine bel_and ?_ _ | refine bel_drews ?_ _ | refine Bel.ext ?_ _ | refine Bel.alloc ?_ _ | refine Bel.drewN ?_ _)))) | exact Calls.ext_of (q5.out _ (Bel.trans hb (by (try simp only [ext_ext]); repeat (first | exact Bel.refl _ | assumption | refine bel_and ?_ _ | refine bel_drews ?_ _ | refine Bel.ext ?_ _ | refine Bel.alloc ?_ _ | refine Bel.drewN ?_ _)))))) | (refine RegC.wpQuiet_split rfl rfl (fun hb => ?_) (fun hb => ?_) <;> simp only [hb])))); all_goals (refine wpQuiet_nil ?_; rintro _ ⟨nq, rfl⟩))
            clear e1 e2 e3
            go_wp2
            (go_ret; exact ⟨ret_int (by exact HB.out.symm), ext_of (by (try simp only [ext_ext]); repeat (first | exact Bel.refl _ | assumption | refine bel_and ?_ _ | refine bel_drews ?_ _ | refine Bel.ext ?_ _ | refine Bel.alloc ?_ _ | refine Bel.drewN ?_ _))⟩)
          · have z1 : (u != x) = false := by simpa using h1
            have z3 : decide (u < 0) = true := by simpa using h3
            have z4 : decide (0 ≤ max x y) = false := by simpa using h4
            have HB : Hid (winOk P W k = true) := Lib.hid (by rw [HV.out, show (u == x) = true by simpa using h1, z3, z4]; rfl)
            clear h1 h2 h3 h4 HV
            go_wp2
            ((first | refine RegC.wp_region_ext1 (by kernel_rfl) (by kernel_rfl) ?_ | refine RegC.wp_region_ext0 (by kernel_rfl) (by kernel_rfl) ?_); (repeat (any_goals (first | go_big_quiet_step (first | (go_at_call 80; with_reducible first | exact Calls.ext_of1 (q4.out _ (Bel.trans hb (by (try simp only [ext_ext]); repeat (first | exact Bel.refl _ | assumption | refine bel_and ?_ _ | refine bel_drews ?_ _ | refine Bel.ext ?_ _ | refine Bel.alloc ?_ _ | refine Bel.drewN ?_ _)))) | exact Calls.ext_of (q4.out _ (Bel.trans hb (by (try simp only [ext_ext]); repeat (first | exact Bel.refl _ | assumption | refine bel_and ?_ _ | refine bel_drews ?_ _ | refine Bel.ext ?_ _ | refine Bel.alloc ?_ _ | refine Bel.drewN ?_ _)))) | exact Calls.ext_of1 (q5.out _ (Bel.trans hb (by (try simp only [ext_ext]); repeat (first | exact Bel.refl _ | assumption | refine bel_and ?_ _ | refine bel_drews ?_ _ | refine Bel.ext ?_ _ | refine Bel.alloc ?_ _ | refine Bel.drewN ?_ _)))) | exact Calls.ext_of (q5.out _ (Bel.trans hb (by (try simp only [ext_ext]); repeat (first | exact Bel.refl _ | assumption | refine bel_and ?_ _ | refine bel_drews ?_ _ | refine Bel.ext ?_ _ | refine Bel.alloc ?_ _ | refine Bel.drewN ?_ _)))))) | (refine RegC.wpQuiet_split rfl rfl (fun hb => ?_) (fun hb => ?_) <;> simp only [hb])))); all_goals (refine wpQuiet_nil ?_; rintro _ ⟨nq, rfl⟩))
            clear e1 e2 e3
            go_wp2
            go_roundw
            case rel =>
              refine ⟨k + 1, by omega, by go_num, ?_, Bel.trans hB (by (try simp only [ext_ext]); repeat (first | exact Bel.refl _ | assumption | refine bel_and ?_ _ | refine bel_drews ?_ _ | refine Bel.ext ?_ _ | refine Bel.alloc ?_ _ | refine Bel.drewN ?_ _))⟩
              intro j hj
              rcases Nat.lt_or_ge j k with h | h
              · exact H1.out j h
              · obtain rfl : j = k := by omega
                exact HB.out
            case measure => (first | (simp [intOf]; done) | (simp [intOf]; omega))
        · have z1 : (u != x) = false := by simpa using h1
          have z3 : decide (u < 0) = false := by simpa using h3
          have HB : Hid (winOk P W k = true) := Lib.hid (by rw [HV.out, show (u == x) = true by simpa using h1, z3]; rfl)
          clear h1 h2 h3 HV
          go_wp2
          ((first | refine RegC.wp_region_ext1 (by kernel_rfl) (by kernel_rfl) ?_ | refine RegC.wp_region_ext0 (by kernel_rfl) (by kernel_rfl) ?_); (repeat (any_goals (first | go_big_quiet_step (first | (go_at_call 80; with_reducible first | exact Calls.ext_of1 (q4.out _ (Bel.trans hb (by (try simp only [ext_ext]); repeat (first | exact Bel.refl _ | assumption | refine bel_and ?_ _ | refine bel_drews ?_ _ | refine Bel.ext ?_ _ | refine Bel.alloc ?_ _ | refine Bel.drewN ?_ _)))) | exact Calls.ext_of (q4.out _ (Bel.trans hb (by (try simp only [ext_ext]); repeat (first | exact Bel.refl _ | assumption | refine bel_and ?_ _ | refine bel_drews ?_ _ | refine Bel.ext ?_ _ | refine Bel.alloc ?_ _ | refine Bel.drewN ?_ _)))) | exact Calls.ext_of1 (q5.out _ (Bel.trans hb (by (try simp only [ext_ext]); repeat (first | exact Bel.refl _ | assumption | refine bel_and ?_ _ | refine bel_drews ?_ _ | refine Bel.ext ?_ _ | refine Bel.alloc ?_ _ | refine Bel.drewN ?_ _)))) | exact Calls.ext_of (q5.out _ (Bel.trans hb (by (try simp only [ext_ext]); repeat (first | exact Bel.refl _ | assumption | refine bel_and ?_ _ | refine bel_drews ?_ _ | refine Bel.ext ?_ _ | refine Bel.alloc ?_ _ | refine Bel.drewN ?_ _)))))) | (refine RegC.wpQuiet_split rfl rfl (fun hb => ?_) (fun hb => ?_) <;> simp only [hb])))); all_goals (refine wpQuiet_nil ?_; rintro _ ⟨nq, rfl⟩))
          clear e1 e2 e3
          go_wp2
          go_roundw
          case rel =>
            refine ⟨k + 1, by omega, by go_num, ?_, Bel.trans hB (by (try simp only [ext_ext]); repeat (first | exact Bel.refl _ | assumption | refine bel_and ?_ _ | refine bel_drews ?_ _ | refine Bel.ext ?_ _ | refine Bel.alloc ?_ _ | refine Bel.drewN ?_ _))⟩
            intro j hj
            rcases Nat.lt_or_ge j k with h | h
            · exact H1.out j h
            · obtain rfl : j = k := by omega
              exact HB.out
          case measure => (first | (simp [intOf]; done) | (simp [intOf]; omega))
      · by_cases h2 : u = y
        · by_cases h3 : u < 0
          · by_cases h4 : 0 ≤ max x y
            · have z1 : (u != x) = true := by simpa using h1
              have z2 : (u != y) = false := by simpa using h2
              have z3 : decide (u < 0) = true := by simpa using h3
              have z4 : decide (0 ≤ max x y) = true := by simpa using h4
              have HB : Hid (r = 8) := Lib.hid (by rw [← HR.out]; exact brChk_wins (allB_no hlt (by rw [HV.out, show (u == x) = false by simpa using h1, show (u == y) = true by simpa using h2, z3, z4]; rfl)))
              clear h1 h2 h3 h4 HV
              go_wp2
              ((first | refine RegC.wp_region_ext1 (by kernel_rfl) (by kernel_rfl) ?_ | refine RegC.wp_region_ext0 (by kernel_rfl) (by kernel_rfl) ?_); (repeat (any_goals (first | go_big_quiet_step (first | (go_at_call 80; with_reducible first | exact Calls.ext_of1 (q4.out _ (Bel.trans hb (by (try simp only [ext_ext]); repeat (first | exact Bel.refl _ | assumption | refine bel_and ?_ _ | refine bel_drews ?_ _ | refine Bel.ext ?_ _ | refine Bel.alloc ?_ _ | refine Bel.drewN ?_ _)))) | exact Calls.ext_of (q4.out _ (Bel.trans hb (by (try simp only [ext_ext]); repeat (first | exact Bel.refl _ | assumption | refine bel_and ?_ _ | refine bel_drews ?_ _ | refine Bel.ext ?_ _ | refine Bel.alloc ?_ _ | refine Bel.drewN ?_ _)))) | exact Calls.ext_of1 (q5.out _ (Bel.trans hb (by (try simp only [ext_ext]); repeat (first | exact Bel.refl _ | assumption | refine bel_and ?_ _ | refine bel_drews ?_ _ | refine Bel.ext ?_ _ | refine Bel.alloc ?_ _ | refine Bel.drewN ?_ _)))) | exact Calls.ext_of (q5.out _ (Bel.trans hb (by (try simp only [ext_ext]); repeat (first | exact Bel.refl _ | assumption | refine bel_and ?_ _ | refine bel_drews ?_ _ | refine Bel.ext ?_ _ | refine Bel.alloc ?_ _ | refine Bel.drewN ?_ _)))))) | (refine RegC.wpQuiet_split rfl rfl (fun hb => ?_) (fun hb => ?_) <;> simp only [hb])))); all_goals (refine wpQuiet_nil ?_; rintro _ ⟨nq, rfl⟩))
              clear e1 e2 e3
              go_wp2
              (go_ret; exact ⟨ret_int (by exact HB.out.symm), ext_of (by (try simp only [ext_ext]); repeat (first | exact Bel.refl _ | assumption | refine bel_and ?_ _ | refine bel_drews ?_ _ | refine Bel.ext ?_ _ | refine Bel.alloc ?_ _ | refine Bel.drewN ?_ _))⟩)
            · have z1 : (u != x) = true := by simpa using h1
              have z2 : (u != y) = false := by simpa using h2
              have z3 : decide (u < 0) = true := by simpa using h3
              have z4 : decide (0 ≤ max x y) = false := by simpa using h4
              have HB : Hid (winOk P W k = true) := Lib.hid (by rw [HV.out, show (u == x) = false by simpa using h1, show (u == y) = true by simpa using h2, z3, z4]; rfl)
              clear h1 h2 h3 h4 HV
              go_wp2
              ((first | refine RegC.wp_region_ext1 (by kernel_rfl) (by kernel_rfl) ?_ | refine RegC.wp_region_ext0 (by kernel_rfl) (by kernel_rfl) ?_); (repeat (any_goals (first | go_big_quiet_step (first | (go_at_call 80; with_reducible first | exact Calls.ext_of1 (q4.out _ (Bel.trans hb (by (try simp only [ext_ext]); repeat (first | exact Bel.refl _ | assumption | refine bel_and ?_ _ | refine bel_drews ?_ _ | refine Bel.ext ?_ _ | refine Bel.alloc ?_ _ | refine Bel.drewN ?_ _)))) | exact Calls.ext_of (q4.out _ (Bel.trans hb (by (try simp only [ext_ext]); repeat (first | exact Bel.refl _ | assumption | refine bel_and ?_ _ | refine bel_drews ?_ _ | refine Bel.ext ?_ _ | refine Bel.alloc ?_ _ | refine Bel.drewN ?_ _)))) | exact Calls.ext_of1 (q5.out _ (Bel.trans hb (by (try simp only [ext_ext]); repeat (first | exact Bel.refl _ | assumption | refine bel_and ?_ _ | refine bel_drews ?_ _ | refine Bel.ext ?_ _ | refine Bel.alloc ?_ _ | refine Bel.drewN ?_ _)))) | exact Calls.ext_of (q5.out _ (Bel.trans hb (by (try simp only [ext_ext]); repeat (first | exact Bel.refl _ | assumption | refine bel_and ?_ _ | refine bel_drews ?_ _ | refine Bel.ext ?_ _ | refine Bel.alloc ?_ _ | refine Bel.drewN ?_ _)))))) | (refine RegC.wpQuiet_split rfl rfl (fun hb => ?_) (fun hb => ?_) <;> simp only [hb])))); all_goals (refine wpQuiet_nil ?_; rintro _ ⟨nq, rfl⟩))
              clear e1 e2 e3
              go_wp2
              go_roundw
              case rel =>
                refine ⟨k + 1, by omega, by go_num, ?_, Bel.trans hB (by (try simp only [ext_ext]); repeat (first | exact Bel.refl _ | assumption | refine bel_and ?_ _ | refine bel_drews ?_ _ | refine Bel.ext ?_ _ | refine Bel.alloc ?_ _ | refine Bel.drewN ?_ _))⟩
                intro j hj
                rcases Nat.lt_or_ge j k with h | h
                · exact H1.out j h
                · obtain rfl : j = k := by omega
                  exact HB.out
              case measure => (first | (simp [intOf]; done) | (simp [intOf]; omega))
          · have z1 : (u != x) = true := by simpa using h1
            have z2 : (u != y) = false := by simpa using h2
            have z3 : decide (u < 0) = false := by simpa using h3
            have HB : Hid (winOk P W k = true) := Lib.hid (by rw [HV.out, show (u == x) = false by simpa using h1, show (u == y) = true by simpa using h2, z3]; rfl)
            clear h1 h2 h3 HV
            go_wp2
            ((first | refine RegC.wp_region_ext1 (by kernel_rfl) (by kernel_rfl) ?_ | refine RegC.wp_region_ext0 (by kernel_rfl) (by kernel_rfl) ?_); (repeat (any_goals (first | go_big_quiet_step (first | (go_at_call 80; with_reducible first | exact Calls.ext_of1 (q4.out _ (Bel.trans hb (by (try simp only [ext_ext]); repeat (first | exact Bel.refl _ | assumption | refine bel_and ?_ _ | refine bel_drews ?_ _ | refine Bel.ext ?_ _ | refine Bel.alloc ?_ _ | refine Bel.drewN ?_ _)))) | exact Calls.ext_of (q4.out _ (Bel.trans hb (by (try simp only [ext_ext]); repeat (first | exact Bel.refl _ | assumption | refine bel_and ?_ _ | refine bel_drews ?_ _ | refine Bel.ext ?_ _ | refine Bel.alloc ?_ _ | refine Bel.drewN ?_ _)))) | exact Calls.ext_of1 (q5.out _ (Bel.trans hb (by (try simp only [ext_ext]); repeat (first | exact Bel.refl _ | assumption | refine bel_and ?_ _ | refine bel_drews ?_ _ | refine Bel.ext ?_ _ | refine Bel.alloc ?_ _ | refine Bel.drewN ?_ _)))) | exact Calls.ext_of (q5.out _ (Bel.trans hb (by (try simp only [ext_ext]); repeat (first | exact Bel.refl _ | assumption | refine bel_and ?_ _ | refine bel_drews ?_ _ | refine Bel.ext ?_ _ | refine Bel.alloc ?_ _ | refine Bel.drewN ?_ _)))))) | (refine RegC.wpQuiet_split rfl rfl (fun hb => ?_) (fun hb => ?_) <;> simp only [hb])))); all_goals (refine wpQuiet_nil ?_; rintro _ ⟨nq, rfl⟩))
            clear e1 e2 e3
            go_wp2
            go_roundw
            case rel =>
              refine ⟨k + 1, by omega, by go_num, ?_, Bel.trans hB (by (try simp only [ext_ext]); repeat (first | exact Bel.refl _ | assumption | refine bel_and ?_ _ | refine bel_drews ?_ _ | refine Bel.ext ?_ _ | refine Bel.alloc ?_ _ | refine Bel.drewN ?_ _))⟩
              intro j hj
              rcases Nat.lt_or_ge j k with h | h
              · exact H1.out j h
              · obtain rfl : j = k := by omega
                exact HB.out
            case measure => (first | (simp [intOf]; done) | (simp [intOf]; omega))
        · have z1 : (u != x) = true := by simpa using h1
          have z2 : (u != y) = true := by simpa using h2
          have HB : Hid (r = 8) := Lib.hid (by rw [← HR.out]; exact brChk_wins (allB_no hlt (by rw [HV.out, show (u == x) = false by simpa using h1, show (u == y) = false by simpa using h2]; rfl)))
          clear h1 h2 HV
          go_wp2
          ((first | refine RegC.wp_region_ext1 (by kernel_rfl) (by kernel_rfl) ?_ | refine RegC.wp_region_ext0 (by kernel_rfl) (by kernel_rfl) ?_); (repeat (any_goals (first | go_big_quiet_step (first | (go_at_call 80; with_reducible first | exact Calls.ext_of1 (q4.out _ (Bel.trans hb (by (try simp only [ext_ext]); repeat (first | exact Bel.refl _ | assumption | refine bel_and ?_ _ | refine bel_drews ?_ _ | refine Bel.ext ?_ _ | refine Bel.alloc ?_ _ | refine Bel.drewN ?_ _)))) | exact Calls.ext_of (q4.out _ (Bel.trans hb (by (try simp only [ext_ext]); repeat (first | exact Bel.refl _ | assumption | refine bel_and ?_ _ | refine bel_drews ?_ _ | refine Bel.ext ?_ _ | refine Bel.alloc ?_ _ | refine Bel.drewN ?_ _)))) | exact Calls.ext_of1 (q5.out _ (Bel.trans hb (by (try simp only [ext_ext]); repeat (first | exact Bel.refl _ | assumption | refine bel_and ?_ _ | refine bel_drews ?_ _ | refine Bel.ext ?_ _ | refine Bel.alloc ?_ _ | refine Bel.drewN ?_ _)))) | exact Calls.ext_of (q5.out _ (Bel.trans hb (by (try simp only [ext_ext]); repeat (first | exact Bel.refl _ | assumption | refine bel_and ?_ _ | refine bel_drews ?_ _ | refine Bel.ext ?_ _ | refine Bel.alloc ?_ _ | refine Bel.drewN ?_ _)))))) | (refine RegC.wpQuiet_split rfl rfl (fun hb => ?_) (fun hb => ?_) <;> simp only [hb])))); all_goals (refine wpQuiet_nil ?_; rintro _ ⟨nq, rfl⟩))
          clear e1 e2 e3
          go_wp2
          (go_ret; exact ⟨ret_int (by exact HB.out.symm), ext_of (by (try simp only [ext_ext]); repeat (first | exact Bel.refl _ | assumption | refine bel_and ?_ _ | refine bel_drews ?_ _ | refine Bel.ext ?_ _ | refine Bel.alloc ?_ _ | refine Bel.drewN ?_ _))⟩)
    · obtain rfl : k = W.length := by omega
      have H : Hid (r = 0) := Lib.hid (by rw [← HR.out]; exact brChk_ok HSh.out HA.out (allB_yes H1.out))
      go_wp2
      (go_ret; exact ⟨ret_int (by exact H.out.symm), ext_of (by (try simp only [ext_ext]); repeat (first | exact Bel.refl _ | assumption | refine bel_and ?_ _ | refine bel_drews ?_ _ | refine Bel.ext ?_ _ | refine Bel.alloc ?_ _ | refine Bel.drewN ?_ _))⟩)
end Go.Proofs.Ytkcpnclgcmnlcaa

namespace Go.Proofs.Ytkcpnclgcmnlcaa
open Go.RowKit Go.Pel
set_option maxRecDepth 10000 in
set_option maxHeartbeats 1000000 in
theorem rnode_any (A B : Option Addr) (c d : Nat) (P W : List Int) (i : Nat) (w : World) (hs : Sl w 1 A P.length c (vi P)) (ht : Sl w 1 B W.length d (vi W)) (hP : P.length ≤ 1000) (hW : W.length ≤ 1000) (hi : i < W.length + P.length) :
    Calls Try.prog 83 #[.agg #[.slice A P.length c, .slice B W.length d], .int .i64 i] w fun e w' => e = .returned (.int .i64 (nodeV P W i)) ∧ ∃ x, w' = ext w x := by
  by_cases h : i < W.length
  · obtain ⟨x, hx⟩ : ∃ x, W[i]? = some x := ⟨_, List.getElem?_eq_getElem h⟩
    have HV := Lib.hid (nodeV_win (P := P) hx)
    obtain ⟨b, o, rfl, hb⟩ := ht.at_ (by omega)
    have r0 := sl_int ht hx
    have h1 : (i : Int) < (W.length : Int) := by omega
    clear hx
    go_enter Try.func83, Try.ntmps83
    go_wp2
    (go_ret; exact ⟨ret_int (by exact HV.out.symm), ext_of (by (try simp only [ext_ext]); repeat (first | exact Bel.refl _ | assumption | refine bel_and ?_ _ | refine bel_drews ?_ _ | refine Bel.ext ?_ _ | refine Bel.alloc ?_ _ | refine Bel.drewN ?_ _))⟩)
  · obtain ⟨k, hk⟩ : ∃ k, i = W.length + k := ⟨i - W.length, by omega⟩
    subst hk
    obtain ⟨x, hx⟩ : ∃ x, P[k]? = some x := ⟨_, List.getElem?_eq_getElem (by omega)⟩
    have HV := Lib.hid (nodeV_place (W := W) hx)
    obtain ⟨b, o, rfl, hb⟩ := hs.at_ (by omega)
    have r0 := sl_int hs hx
    have h1 : (k : Int) < (P.length : Int) := by omega
    have h2 : (W.length : Int) ≤ 1000 := by omega
    have h5 : (P.length : Int) ≤ 1000 := by omega
    obtain ⟨j, hj⟩ : ∃ j : Int, ((W.length + k : Nat) : Int) = j := ⟨_, rfl⟩
    rw [hj]
    have h6 : ¬ j < (W.length : Int) := by omega
    have e1 : j - (W.length : Int) = (k : Int) := by omega
    have e2 : IntKind.i64.wrap (j - (W.length : Int)) = (k : Int) := by rw [e1]; exact IntWalk.i64_in _ (by omega)
    have e3 : wrap64 (j - (W.length : Int)) = (k : Int) := by rw [e1]; unfold wrap64; omega
    clear hx hj
    go_enter Try.func83, Try.ntmps83
    go_wp2
    (go_ret; exact ⟨ret_int (by exact HV.out.symm), ext_of (by (try simp only [ext_ext]); repeat (first | exact Bel.refl _ | assumption | refine bel_and ?_ _ | refine bel_drews ?_ _ | refine Bel.ext ?_ _ | refine Bel.alloc ?_ _ | refine Bel.drewN ?_ _))⟩)
theorem rnode_int (A B : Option Addr) (c d : Nat) (P W : List Int) (i : Nat) (j v : Int) (hj : j = (i : Int)) (hv : nodeV P W i = v) (w : World) (hs : Sl w 1 A P.length c (vi P)) (ht : Sl w 1 B W.length d (vi W)) (hP : P.length ≤ 1000) (hW : W.length ≤ 1000) (hi : i < W.length + P.length) :
    Calls Try.prog 83 #[.agg #[.slice A P.length c, .slice B W.length d], .int .i64 j] w fun e w' => e = .returned (.int .i64 v) ∧ ∃ x, w' = ext w x := by subst hj; exact hv ▸ rnode_any A B c d P W i w hs ht hP hW hi
set_option maxRecDepth 10000 in
set_option maxHeartbeats 4000000 in
theorem twice_any (A : Option Addr) (c : Nat) (l : List Int) (w : World) (hs : Sl w 1 A l.length c (vi l)) (hl : l.length ≤ 1000000) :
    Calls Try.prog 60 #[.slice A l.length c] w fun e w' => e = .returned (.bool (!(onceB l))) ∧ ∃ x, w' = ext w x := by
  obtain ⟨v, hv⟩ : ∃ v, onceB l = v := ⟨_, rfl⟩
  rw [hv]
  have HV := Lib.hid hv
  clear hv
  go_enter Try.func60, Try.ntmps60
  go_wp2
  go_loopw [3] (fun i wr => ∃ k : Nat, k ≤ l.length ∧ i = .int .i64 k ∧ (∀ (i j : Nat) (x : Int), i < k → j < i → l[i]? = some x → 0 ≤ x → l[j]? ≠ some x) ∧ Bel w wr) (fun i _ => l.length - (intOf i).toNat)
  case atStart => exact ⟨0, Nat.zero_le _, rfl, (fun i j x h => absurd h (Nat.not_lt_zero i)), Bel.refl _⟩
  case round =>
    obtain ⟨k, hk, rfl, h1, hB⟩ := hrel
    have H1 := Lib.hid h1
    clear h1
    obtain ⟨wo, rfl⟩ : ∃ wo : World, wo = wr := ⟨_, rfl⟩
    by_cases hlt : k < l.length
    · obtain ⟨x, hx⟩ : ∃ x, l[k]? = some x := ⟨_, List.getElem?_eq_getElem hlt⟩
      obtain ⟨b, o, rfl, hb⟩ := hs.at_ (by omega)
      have r0 := sl_int (hs.bel hB) hx
      have rl : b < wo.heap.size := by have := hB.le; omega
      have HX := Lib.hid hx
      have hlt' : (k : Int) < (l.length : Int) := by omega
      clear hx
      go_wp2
      go_loopw [4] (fun i wr => ∃ m : Nat, m ≤ k ∧ i = .int .i64 m ∧ (∀ (j : Nat), j < m → 0 ≤ x → l[j]? ≠ some x) ∧ Bel wo wr) (fun i _ => k - (intOf i).toNat)
      case atStart => exact ⟨0, Nat.zero_le _, rfl, (fun j h => absurd h (Nat.not_lt_zero j)), Bel.refl _⟩
      case round =>
        obtain ⟨m, hm, rfl, h2, hB2⟩ := hrel
        have H2 := Lib.hid h2
        clear h2
        by_cases hlm : m < k
        · obtain ⟨y, hy⟩ : ∃ y, l[m]? = some y := ⟨_, List.getElem?_eq_getElem (by omega)⟩
          have s0 := sl_int ((hs.bel hB).bel hB2) hy
          have r0' := sl_int ((hs.bel hB).bel hB2) HX.out
          have rl2 : b < wr.heap.size := by have := hB2.le; omega
          have HY := Lib.hid hy
          have hlm' : (m : Int) < (k : Int) := by omega
          have hml' : (m : Int) < (l.length : Int) := by omega
          clear hy
          by_cases h0 : 0 ≤ x
          · have z0 : decide (0 ≤ x) = true := by simpa using h0
            by_cases hxy : y = x
            · have HB : Hid (v = false) := Lib.hid (by rw [← HV.out]; exact twice_yes hlm HX.out h0 (hxy ▸ HY.out))
              have z1 : (y == x) = true := by simpa using hxy
              clear h0 hxy
              go_wp2
              ((first | refine RegC.wp_region_ext1 (by kernel_rfl) (by kernel_rfl) ?_ | refine RegC.wp_region_ext0 (by kernel_rfl) (by kernel_rfl) ?_); (repeat (any_goals (first | go_big_quiet_step (fail) | (refine RegC.wpQuiet_split rfl rfl (fun hb => ?_) (fun hb => ?_) <;> simp only [hb])))); all_goals (refine wpQuiet_nil ?_; rintro _ ⟨nq, rfl⟩))
              go_wp2
              (go_ret; exact ⟨ret_bool (by rw [HB.out]; rfl), ext_of (Bel.trans (hB.trans hB2) (by (try simp only [ext_ext]); repeat (first | exact Bel.refl _ | assumption | refine bel_and ?_ _ | refine bel_drews ?_ _ | refine Bel.ext ?_ _ | refine Bel.alloc ?_ _ | refine Bel.drewN ?_ _)))⟩)
            · have z1 : (y == x) = false := by simpa using hxy
              have HN := Lib.hid hxy
              clear h0 hxy
              go_wp2
              ((first | refine RegC.wp_region_ext1 (by kernel_rfl) (by kernel_rfl) ?_ | refine RegC.wp_region_ext0 (by kernel_rfl) (by kernel_rfl) ?_); (repeat (any_goals (first | go_big_quiet_step (fail) | (refine RegC.wpQuiet_split rfl rfl (fun hb => ?_) (fun hb => ?_) <;> simp only [hb])))); all_goals (refine wpQuiet_nil ?_; rintro _ ⟨nq, rfl⟩))
              go_wp2
              go_roundw
              case rel =>
                refine ⟨m + 1, by omega, by go_num, ?_, Bel.trans hB2 (by (try simp only [ext_ext]); repeat (first | exact Bel.refl _ | assumption | refine bel_and ?_ _ | refine bel_drews ?_ _ | refine Bel.ext ?_ _ | refine Bel.alloc ?_ _ | refine Bel.drewN ?_ _))⟩
                intro j hj hx0 hjx
                rcases Nat.lt_or_ge j m with h | h
                · exact H2.out j h hx0 hjx
                · obtain rfl : j = m := by omega
                  rw [HY.out] at hjx; exact HN.out (Option.some.inj hjx)
              case measure => (first | (simp [intOf]; done) | (simp [intOf]; omega))
          · have z0 : decide (0 ≤ x) = false := by simpa using h0
            have HN := Lib.hid (show x < 0 by omega)
            clear h0
            go_wp2
            ((first | refine RegC.wp_region_ext1 (by kernel_rfl) (by kernel_rfl) ?_ | refine RegC.wp_region_ext0 (by kernel_rfl) (by kernel_rfl) ?_); (repeat (any_goals (first | go_big_quiet_step (fail) | (refine RegC.wpQuiet_split rfl rfl (fun hb => ?_) (fun hb => ?_) <;> simp only [hb])))); all_goals (refine wpQuiet_nil ?_; rintro _ ⟨nq, rfl⟩))
            go_wp2
            go_roundw
            case rel =>
              refine ⟨m + 1, by omega, by go_num, ?_, Bel.trans hB2 (by (try simp only [ext_ext]); repeat (first | exact Bel.refl _ | assumption | refine bel_and ?_ _ | refine bel_drews ?_ _ | refine Bel.ext ?_ _ | refine Bel.alloc ?_ _ | refine Bel.drewN ?_ _))⟩
              intro j hj hx0
              have := HN.out; omega
            case measure => (first | (simp [intOf]; done) | (simp [intOf]; omega))
        · obtain rfl : m = k := by omega
          go_wp2
          go_roundw
          case rel =>
            refine ⟨m + 1, by omega, by go_num, ?_, Bel.trans hB hB2⟩
            intro i j y hi hj hiy hy hjy
            rcases Nat.lt_or_ge i m with h | h
            · exact H1.out i j y h hj hiy hy hjy
            · obtain rfl : i = m := by omega
              rw [HX.out] at hiy
              obtain rfl := Option.some.inj hiy
              exact H2.out j hj hy hjy
          case measure => (first | (simp [intOf]; done) | (simp [intOf]; omega))
    · obtain rfl : k = l.length := by omega
      have HB : Hid (v = true) := Lib.hid (by rw [← HV.out]; exact twice_no (fun i j x hj hi h0 => H1.out i j x (List.getElem?_eq_some_iff.1 hi).1 hj hi h0))
      go_wp2
      (go_ret; exact ⟨ret_bool (by rw [HB.out]; rfl), ext_of (by (try simp only [ext_ext]); repeat (first | exact Bel.refl _ | assumption | refine bel_and ?_ _ | refine bel_drews ?_ _ | refine Bel.ext ?_ _ | refine Bel.alloc ?_ _ | refine Bel.drewN ?_ _))⟩)
end Go.Proofs.Ytkcpnclgcmnlcaa

namespace Go.Proofs.Ytkcpnclgcmnlcaa
open Go.RowKit Go.Pel
set_option maxRecDepth 10000 in
set_option maxHeartbeats 4000000 in
theorem rcheck_any (A B : Option Addr) (c d : Nat) (P W : List Int) (w : World) (hs : Sl w 1 A P.length c (vi P)) (ht : Sl w 1 B W.length d (vi W)) (hP : P.length ≤ 1000) (hW : W.length ≤ 1000) :
    Calls Try.prog 44 #[.agg #[.slice A P.length c, .slice B W.length d]] w fun e w' => e = .returned (.int .i64 (brChk P W)) ∧ ∃ x, w' = ext w x := by
  have q1 := Lib.hid (fun W' hb => twice_any A c P W' (hs.bel (w' := W') hb) (by omega))
  have q3 := Lib.hid (fun W' hb i j v hj hv hi => rnode_int A B c d P W i j v hj hv W' (hs.bel (w' := W') hb) (ht.bel hb) hP hW hi)
  obtain ⟨r, hr⟩ : ∃ r, brChk P W = r := ⟨_, rfl⟩
  rw [hr]
  have HR := Lib.hid hr
  clear hr
  by_cases h1 : P.length < 1
  · have H : Hid (r = 8) := Lib.hid (by rw [← HR.out]; exact brChk_shape (by unfold shapeOk; simp; omega))
    have h1' : (P.length : Int) < 1 := by omega
    clear hs ht hP hW
    go_enter Try.func44, Try.ntmps44
    go_wp2
    (go_ret; exact ⟨ret_int (by exact H.out.symm), ext_of (by (try simp only [ext_ext]); repeat (first | exact Bel.refl _ | assumption | refine bel_and ?_ _ | refine bel_drews ?_ _ | refine Bel.ext ?_ _ | refine Bel.alloc ?_ _ | refine Bel.drewN ?_ _))⟩)
  by_cases h2 : 64 < P.length
  · have H : Hid (r = 8) := Lib.hid (by rw [← HR.out]; exact brChk_shape (by unfold shapeOk; simp; omega))
    have h1' : ¬ (P.length : Int) < 1 := by omega
    have h2' : (64 : Int) < (P.length : Int) := by omega
    clear hs ht hP hW
    go_enter Try.func44, Try.ntmps44
    go_wp2
    (go_ret; exact ⟨ret_int (by exact H.out.symm), ext_of (by (try simp only [ext_ext]); repeat (first | exact Bel.refl _ | assumption | refine bel_and ?_ _ | refine bel_drews ?_ _ | refine Bel.ext ?_ _ | refine Bel.alloc ?_ _ | refine Bel.drewN ?_ _))⟩)
  have h1' : ¬ (P.length : Int) < 1 := by omega
  have h2' : ¬ (64 : Int) < (P.length : Int) := by omega
  have hb1 : (P.length : Int) ≤ 64 := by omega
  by_cases h3 : W.length + 1 = P.length
  case neg =>
    have H : Hid (r = 8) := Lib.hid (by rw [← HR.out]; exact brChk_shape (by unfold shapeOk; simp [h3]))
    have h3' : ((W.length : Int) != (P.length : Int) - 1) = true := by rw [bne_iff_ne]; omega
    clear hs ht hP hW
    go_enter Try.func44, Try.ntmps44
    go_wp2
    (go_ret; exact ⟨ret_int (by exact H.out.symm), ext_of (by (try simp only [ext_ext]); repeat (first | exact Bel.refl _ | assumption | refine bel_and ?_ _ | refine bel_drews ?_ _ | refine Bel.ext ?_ _ | refine Bel.alloc ?_ _ | refine Bel.drewN ?_ _))⟩)
  have h3' : ((W.length : Int) != (P.length : Int) - 1) = false := by rw [bne_eq_false_iff_eq]; omega
  have hb2 : (W.length : Int) ≤ 63 := by omega
  have HL := Lib.hid h3
  cases ho : onceB P with
  | false =>
    have H : Hid (r = 8) := Lib.hid (by rw [← HR.out]; exact brChk_shape (by unfold shapeOk; rw [ho]; simp))
    rw [ho] at q1
    clear hs ht hP hW ho h3
    go_enter Try.func44, Try.ntmps44
    go_wp2_with ((go_at_call 60; (with_reducible refine (q1.out _ (by (try simp only [ext_ext]); repeat (first | exact Bel.refl _ | assumption | refine bel_and ?_ _ | refine bel_drews ?_ _ | refine Bel.ext ?_ _ | refine Bel.alloc ?_ _ | refine Bel.drewN ?_ _))).mono ?_); rintro e _ ⟨rfl, nx, rfl⟩))
    (go_ret; exact ⟨ret_int (by exact H.out.symm), ext_of (by (try simp only [ext_ext]); repeat (first | exact Bel.refl _ | assumption | refine bel_and ?_ _ | refine bel_drews ?_ _ | refine Bel.ext ?_ _ | refine Bel.alloc ?_ _ | refine Bel.drewN ?_ _))⟩)
  | true =>
  rw [ho] at q1
  have HSh : Hid (shapeOk P W = true) := Lib.hid (by unfold shapeOk; rw [ho]; simp; omega)
  clear ho hP hW h3
  go_enter Try.func44, Try.ntmps44
  go_wp2_with ((go_at_call 60; (with_reducible refine (q1.out _ (by (try simp only [ext_ext]); repeat (first | exact Bel.refl _ | assumption | refine bel_and ?_ _ | refine bel_drews ?_ _ | refine Bel.ext ?_ _ | refine Bel.alloc ?_ _ | refine Bel.drewN ?_ _))).mono ?_); rintro e _ ⟨rfl, n1, rfl⟩))
  obtain ⟨V, hV⟩ : ∃ V, ext (w.alloc (.cells #[.slice A P.length c, .slice B W.length d] 47)) n1 = V := ⟨_, rfl⟩
  have hb : Bel w V := by rw [← hV]; exact (by (try simp only [ext_ext]); repeat (first | exact Bel.refl _ | assumption | refine bel_and ?_ _ | refine bel_drews ?_ _ | refine Bel.ext ?_ _ | refine Bel.alloc ?_ _ | refine Bel.drewN ?_ _))
  have BX : Box V w.heap.size #[.slice A P.length c, .slice B W.length d] := Box.new (W := w) (e := 47) (by rw [← hV]; exact (by (try simp only [ext_ext]); repeat (first | exact Bel.refl _ | assumption | refine bel_and ?_ _ | refine bel_drews ?_ _ | refine Bel.ext ?_ _ | refine Bel.alloc ?_ _ | refine Bel.drewN ?_ _))) rfl
  rw [hV]
  clear hV q1
  go_loopw [4] (fun i wr => ∃ k : Nat, k ≤ P.length ∧ i = .int .i64 k ∧ (∀ j, j < k → inIds (P.getD j 0) = true) ∧ Bel V wr) (fun i _ => P.length - (intOf i).toNat)
  case atStart => exact ⟨0, Nat.zero_le _, rfl, (fun j h => absurd h (Nat.not_lt_zero j)), Bel.refl _⟩
  case round =>
    obtain ⟨k, hk, rfl, hw1, hB⟩ := hrel
    have H1 := Lib.hid hw1
    clear hw1
    by_cases hlt : k < P.length
    · have hb9 := hb.trans hB
      have BX9 := BX.bel hB
      obtain ⟨u, hu⟩ : ∃ u, P[k]? = some u := ⟨_, List.getElem?_eq_getElem hlt⟩
      obtain ⟨bB, oB, rfl, hbB⟩ := hs.at_ (by omega)
      have r0 := sl_int (hs.bel hb9) hu
      have rl : bB < wr.heap.size := by have := hb9.le; omega
      have HU := Lib.hid (getD_some hu)
      have hlt' : (k : Int) < (P.length : Int) := by omega
      have xe := BX9.eq 0 (.slice (some ⟨bB, oB, none⟩) P.length c) rfl
      have xl := BX9.lt
      clear hu
      by_cases h4 : u < -1
      · have H : Hid (r = 8) := Lib.hid (by rw [← HR.out]; exact brChk_ids (allB_no hlt (by rw [HU.out]; unfold inIds; simp; omega)))
        have z1 : decide (u < -1) = true := by simpa using h4
        clear h4
        go_wp2
        (go_ret; exact ⟨ret_int (by exact H.out.symm), ext_of (by (try simp only [ext_ext]); repeat (first | exact Bel.refl _ | assumption | refine bel_and ?_ _ | refine bel_drews ?_ _ | refine Bel.ext ?_ _ | refine Bel.alloc ?_ _ | refine Bel.drewN ?_ _))⟩)
      · have z1 : decide (u < -1) = false := by simpa using h4
        by_cases h5 : 65535 < u
        · have H : Hid (r = 8) := Lib.hid (by rw [← HR.out]; exact brChk_ids (allB_no hlt (by rw [HU.out]; unfold inIds; simp; omega)))
          have z2 : decide (65535 < u) = true := by simpa using h5
          clear h4 h5
          go_wp2
          (go_ret; exact ⟨ret_int (by exact H.out.symm), ext_of (by (try simp only [ext_ext]); repeat (first | exact Bel.refl _ | assumption | refine bel_and ?_ _ | refine bel_drews ?_ _ | refine Bel.ext ?_ _ | refine Bel.alloc ?_ _ | refine Bel.drewN ?_ _))⟩)
        · have z2 : decide (65535 < u) = false := by simpa using h5
          have HI : Hid (inIds u = true) := Lib.hid (by unfold inIds; simp; omega)
          clear h4 h5
          go_wp2
          go_roundw
          case rel =>
            refine ⟨k + 1, by omega, by go_num, ?_, Bel.trans hB (by (try simp only [ext_ext]); repeat (first | exact Bel.refl _ | assumption | refine bel_and ?_ _ | refine bel_drews ?_ _ | refine Bel.ext ?_ _ | refine Bel.alloc ?_ _ | refine Bel.drewN ?_ _))⟩
            intro j hj
            rcases Nat.lt_or_ge j k with h | h
            · exact H1.out j h
            · obtain rfl : j = k := by omega
              rw [HU.out]; exact HI.out
          case measure => (first | (simp [intOf]; done) | (simp [intOf]; omega))
    · obtain rfl : k = P.length := by omega
      have HA := Lib.hid (allB_yes H1.out)
      clear H1
      replace hb := hb.trans hB
      replace BX := BX.bel hB
      clear hB
      obtain ⟨wo, rfl⟩ : ∃ wo : World, wo = wr := ⟨_, rfl⟩
      have xe9 := BX.eq 1 (.slice B W.length d) rfl
      have xl9 := BX.lt
      go_wp2
      clear xe9 xl9
      go_loopw [5] (fun i wr => ∃ k : Nat, k ≤ W.length ∧ i = .int .i64 k ∧ (∀ j, j < k → winR P W j = true) ∧ Bel wo wr) (fun i _ => W.length - (intOf i).toNat)
      case atStart => exact ⟨0, Nat.zero_le _, rfl, (fun j h => absurd h (Nat.not_lt_zero j)), Bel.refl _⟩
      case round =>
        obtain ⟨k, hk, rfl, hw1, hB⟩ := hrel
        have H1 := Lib.hid hw1
        clear hw1
        replace hb := hb.trans hB
        replace BX := BX.bel hB
        by_cases hlt : k < W.length
        · obtain ⟨u, hu⟩ : ∃ u, W[k]? = some u := ⟨_, List.getElem?_eq_getElem hlt⟩
          obtain ⟨bB, oB, rfl, hbB⟩ := ht.at_ (by omega)
          have r0 := sl_int (ht.bel hb) hu
          have rl : bB < wr.heap.size := by have := hb.le; omega
          obtain ⟨x, hx⟩ : ∃ x, nodeV P W (2 * k + 1) = x := ⟨_, rfl⟩
          obtain ⟨y, hy⟩ : ∃ y, nodeV P W (2 * k + 2) = y := ⟨_, rfl⟩
          have q4 := Lib.hid (fun W' hb' => q3.out W' hb' (2 * k + 1) (2 * (k : Int) + 1) x (by omega) hx (by have := HL.out; omega))
          have q5 := Lib.hid (fun W' hb' => q3.out W' hb' (2 * k + 2) (2 * (k : Int) + 2) y (by omega) hy (by have := HL.out; omega))
          have HV : Hid (winR P W k = ((u == x || u == y) && !(u == -1 && (x != -1 || y != -1)))) := Lib.hid (by unfold winR; rw [getD_some hu, hx, hy])
          have hlt' : (k : Int) < (W.length : Int) := by omega
          have e1 : IntKind.i64.wrap (2 * (k : Int)) = 2 * (k : Int) := IntWalk.i64_in _ (by omega)
          have e2 : IntKind.i64.wrap (2 * (k : Int) + 1) = 2 * (k : Int) + 1 := IntWalk.i64_in _ (by omega)
          have e3 : IntKind.i64.wrap (2 * (k : Int) + 2) = 2 * (k : Int) + 2 := IntWalk.i64_in _ (by omega)
          have xe := BX.eq 0 (.slice A P.length c) rfl
          have xf := BX.eq 1 (.slice (some ⟨bB, oB, none⟩) W.length d) rfl
          have xl := BX.lt
          clear hu hx hy
          by_cases h1 : u = x
          · have h2 : True := trivial
            by_cases h3 : u = -1
            · by_cases h4 : x = -1
              · by_cases h5 : y = -1
                · have z1 : (u != x) = false := by simpa using h1
                  have z3 : (u == -1) = true := by simpa using h3
                  have z4 : (x != -1) = false := by simpa using h4
                  have z5 : (y != -1) = false := by simpa using h5
                  have HB : Hid (winR P W k = true) := Lib.hid (by rw [HV.out, show (u == x) = true by simpa using h1, z3, z4, z5]; rfl)
                  clear h1 h2 h3 h4 h5 HV
                  go_wp2
                  ((first | refine RegC.wp_region_ext1 (by kernel_rfl) (by kernel_rfl) ?_ | refine RegC.wp_region_ext0 (by kernel_rfl) (by kernel_rfl) ?_); (repeat (any_goals (first | go_big_quiet_step (first | (go_at_call 83; with_reducible first | exact Calls.ext_of1 (q4.out _ (Bel.trans hb (by (try simp only [ext_ext]); repeat (first | exact Bel.refl _ | assumption | refine bel_and ?_ _ | refine bel_drews ?_ _ | refine Bel.ext ?_ _ | refine Bel.alloc ?_ _ | refine Bel.drewN ?_ _)))) | exact Calls.ext_of (q4.out _ (Bel.trans hb (by (try simp only [ext_ext]); repeat (first | exact Bel.refl _ | assumption | refine bel_and ?_ _ | refine bel_drews ?_ _ | refine Bel.ext ?_ _ | refine Bel.alloc ?_ _ | refine Bel.drewN ?_ _)))) | exact Calls.ext_of1 (q5.out _ (Bel.trans hb (by (try simp only [ext_ext]); repeat (first | exact Bel.refl _ | assumption | refine bel_and ?_ _ | refine bel_drews ?_ _ | refine Bel.ext ?_ _ | refine Bel.alloc ?_ _ | refine Bel.drewN ?_ _)))) | exact Calls.ext_of (q5.out _ (Bel.trans hb (by (try simp only [ext_ext]); repeat (first | exact Bel.refl _ | assumption | refine bel_and ?_ _ | refine bel_drews ?_ _ | refine Bel.ext ?_ _ | refine Bel.alloc ?_ _ | refine Bel.drewN ?_ _)))))) | (refine RegC.wpQuiet_split rfl rfl (fun hb => ?_) (fun hb => ?_) <;> simp only [hb])))); all_goals (refine wpQuiet_nil ?_; rintro _ ⟨nq, rfl⟩))
                  clear e1 e2 e3
                  go_wp2
                  go_roundw
                  case rel =>
                    refine ⟨k + 1, by omega, by go_num, ?_, Bel.trans hB (by (try simp only [ext_ext]); repeat (first | exact Bel.refl _ | assumption | refine bel_and ?_ _ | refine bel_drews ?_ _ | refine Bel.ext ?_ _ | refine Bel.alloc ?_ _ | refine Bel.drewN ?_ _))⟩
                    intro j hj
                    rcases Nat.lt_or_ge j k with h | h
                    · exact H1.out j h
                    · obtain rfl : j = k := by omega
                      exact HB.out
                  case measure => (first | (simp [intOf]; done) | (simp [intOf]; omega))
                · have z1 : (u != x) = false := by simpa using h1
                  have z3 : (u == -1) = true := by simpa using h3
                  have z4 : (x != -1) = false := by simpa using h4
                  have z5 : (y != -1) = true := by simpa using h5
                  have HB : Hid (r = 8) := Lib.hid (by rw [← HR.out]; exact brChk_wins (by rw [win_same HL.out HA.out]; exact allB_no hlt (by rw [HV.out, show (u == x) = true by simpa using h1, z3, z4, z5]; rfl)))
                  clear h1 h2 h3 h4 h5 HV
                  go_wp2
                  ((first | refine RegC.wp_region_ext1 (by kernel_rfl) (by kernel_rfl) ?_ | refine RegC.wp_region_ext0 (by kernel_rfl) (by kernel_rfl) ?_); (repeat (any_goals (first | go_big_quiet_step (first | (go_at_call 83; with_reducible first | exact Calls.ext_of1 (q4.out _ (Bel.trans hb (by (try simp only [ext_ext]); repeat (first | exact Bel.refl _ | assumption | refine bel_and ?_ _ | refine bel_drews ?_ _ | refine Bel.ext ?_ _ | refine Bel.alloc ?_ _ | refine Bel.drewN ?_ _)))) | exact Calls.ext_of (q4.out _ (Bel.trans hb (by (try simp only [ext_ext]); repeat (first | exact Bel.refl _ | assumption | refine bel_and ?_ _ | refine bel_drews ?_ _ | refine Bel.ext ?_ _ | refine Bel.alloc ?_ _ | refine Bel.drewN ?_ _)))) | exact Calls.ext_of1 (q5.out _ (Bel.trans hb (by (try simp only [ext_ext]); repeat (first | exact Bel.refl _ | assumption | refine bel_and ?_ _ | refine bel_drews ?_ _ | refine Bel.ext ?_ _ | refine Bel.alloc ?_ _ | refine Bel.drewN ?_ _)))) | exact Calls.ext_of (q5.out _ (Bel.trans hb (by (try simp only [ext_ext]); repeat (first | exact Bel.refl _ | assumption | refine bel_and ?_ _ | refine bel_drews ?_ _ | refine Bel.ext ?_ _ | refine Bel.alloc ?_ _ | refine Bel.drewN ?_ _)))))) | (refine RegC.wpQuiet_split rfl rfl (fun hb => ?_) (fun hb => ?_) <;> simp only [hb])))); all_goals (refine wpQuiet_nil ?_; rintro _ ⟨nq, rfl⟩))
                  clear e1 e2 e3
                  go_wp2
                  (go_ret; exact ⟨ret_int (by exact HB.out.symm), ext_of (by (try simp only [ext_ext]); repeat (first | exact Bel.refl _ | assumption | refine bel_and ?_ _ | refine bel_drews ?_ _ | refine Bel.ext ?_ _ | refine Bel.alloc ?_ _ | refine Bel.drewN ?_ _))⟩)
              · have z1 : (u != x) = false := by simpa using h1
                have z3 : (u == -1) = true := by simpa using h3
                have z4 : (x != -1) = true := by simpa using h4
                have HB : Hid (r = 8) := Lib.hid (by rw [← HR.out]; exact brChk_wins (by rw [win_same HL.out HA.out]; exact allB_no hlt (by rw [HV.out, show (u == x) = true by simpa using h1, z3, z4]; rfl)))
                clear h1 h2 h3 h4 HV
                go_wp2
                ((first | refine RegC.wp_region_ext1 (by kernel_rfl) (by kernel_rfl) ?_ | refine RegC.wp_region_ext0 (by kernel_rfl) (by kernel_rfl) ?_); (repeat (any_goals (first | go_big_quiet_step (first | (go_at_call 83; with_reducible first | exact Calls.ext_of1 (q4.out _ (Bel.trans hb (by (try simp only [ext_ext]); repeat (first | exact Bel.refl _ | assumption | refine bel_and ?_ _ | refine bel_drews ?_ _ | refine Bel.ext ?_ _ | refine Bel.alloc ?_ _ | refine Bel.drewN ?_ _)))) | exact Calls.ext_of (q4.out _ (Bel.trans hb (by (try simp only [ext_ext]); repeat (first | exact Bel.refl _ | assumption | refine bel_and ?_ _ | refine bel_drews ?_ _ | refine Bel.ext ?_ _ | refine Bel.alloc ?_ _ | refine Bel.drewN ?_ _)))) | exact Calls.ext_of1 (q5.out _ (Bel.trans hb (by (try simp only [ext_ext]); repeat (first | exact Bel.refl _ | assumption | refine bel_and ?_ _ | refine bel_drews ?_ _ | refine Bel.ext ?_ _ | refine Bel.alloc ?_ _ | refine Bel.drewN ?_ _)))) | exact Calls.ext_of (q5.out _ (Bel.trans hb (by (try simp only [ext_ext]); repeat (first | exact Bel.refl _ | assumption | refine bel_and ?_ _ | refine bel_drews ?_ _ | refine Bel.ext ?_ _ | refine Bel.alloc ?_ _ | refine Bel.drewN ?_ _)))))) | (refine RegC.wpQuiet_split rfl rfl (fun hb => ?_) (fun hb => ?_) <;> simp only [hb])))); all_goals (refine wpQuiet_nil ?_; rintro _ ⟨nq, rfl⟩))
                clear e1 e2 e3
                go_wp2
                (go_ret; exact ⟨ret_int (by exact HB.out.symm), ext_of (by (try simp only [ext_ext]); repeat (first | exact Bel.refl _ | assumption | refine bel_and ?_ _ | refine bel_drews ?_ _ | refine Bel.ext ?_ _ | refine Bel.alloc ?_ _ | refine Bel.drewN ?_ _))⟩)
            · have z1 : (u != x) = false := by simpa using h1
              have z3 : (u == -1) = false := by simpa using h3
              have HB : Hid (winR P W k = true) := Lib.hid (by rw [HV.out, show (u == x) = true by simpa using h1, z3]; rfl)
              clear h1 h2 h3 HV
              go_wp2
              ((first | refine RegC.wp_region_ext1 (by kernel_rfl) (by kernel_rfl) ?_ | refine RegC.wp_region_ext0 (by kernel_rfl) (by kernel_rfl) ?_); (repeat (any_goals (first | go_big_quiet_step (first | (go_at_call 83; with_reducible first | exact Calls.ext_of1 (q4.out _ (Bel.trans hb (by (try simp only [ext_ext]); repeat (first | exact Bel.refl _ | assumption | refine bel_and ?_ _ | refine bel_drews ?_ _ | refine Bel.ext ?_ _ | refine Bel.alloc ?_ _ | refine Bel.drewN ?_ _)))) | exact Calls.ext_of (q4.out _ (Bel.trans hb (by (try simp only [ext_ext]); repeat (first | exact Bel.refl _ | assumption | refine bel_and ?_ _ | refine bel_drews ?_ _ | refine Bel.ext ?_ _ | refine Bel.alloc ?_ _ | refine Bel.drewN ?_ _)))) | exact Calls.ext_of1 (q5.out _ (Bel.trans hb (by (try simp only [ext_ext]); repeat (first | exact Bel.refl _ | assumption | refine bel_and ?_ _ | refine bel_drews ?_ _ | refine Bel.ext ?_ _ | refine Bel.alloc ?_ _ | refine Bel.drewN ?_ _)))) | exact Calls.ext_of (q5.out _ (Bel.trans hb (by (try simp only [ext_ext]); repeat (first | exact Bel.refl _ | assumption | refine bel_and ?_ _ | refine bel_drews ?_ _ | refine Bel.ext ?_ _ | refine Bel.alloc ?_ _ | refine Bel.drewN ?_ _)))))) | (refine RegC.wpQuiet_split rfl rfl (fun hb => ?_) (fun hb => ?_) <;> simp only [hb])))); all_goals (refine wpQuiet_nil ?_; rintro _ ⟨nq, rfl⟩))
              clear e1 e2 e3
              go_wp2
              go_roundw
              case rel =>
                refine ⟨k + 1, by omega, by go_num, ?_, Bel.trans hB (by (try simp only [ext_ext]); repeat (first | exact Bel.refl _ | assumption | refine bel_and ?_ _ | refine bel_drews ?_ _ | refine Bel.ext ?_ _ | refine Bel.alloc ?_ _ | refine Bel.drewN ?_ _))⟩
                intro j hj
                rcases Nat.lt_or_ge j k with h | h
                · exact H1.out j h
                · obtain rfl : j = k := by omega
                  exact HB.out
              case measure => (first | (simp [intOf]; done) | (simp [intOf]; omega))
          · by_cases h2 : u = y
            · by_cases h3 : u = -1
              · by_cases h4 : x = -1
                · by_cases h5 : y = -1
                  · have z1 : (u != x) = true := by simpa using h1
                    have z2 : (u != y) = false := by simpa using h2
                    have z3 : (u == -1) = true := by simpa using h3
                    have z4 : (x != -1) = false := by simpa using h4
                    have z5 : (y != -1) = false := by simpa using h5
                    have HB : Hid (winR P W k = true) := Lib.hid (by rw [HV.out, show (u == x) = false by simpa using h1, show (u == y) = true by simpa using h2, z3, z4, z5]; rfl)
                    clear h1 h2 h3 h4 h5 HV
                    go_wp2
                    ((first | refine RegC.wp_region_ext1 (by kernel_rfl) (by kernel_rfl) ?_ | refine RegC.wp_region_ext0 (by kernel_rfl) (by kernel_rfl) ?_); (repeat (any_goals (first | go_big_quiet_step (first | (go_at_call 83; with_reducible first | exact Calls.ext_of1 (q4.out _ (Bel.trans hb (by (try simp only [ext_ext]); repeat (first | exact Bel.refl _ | assumption | refine bel_and ?_ _ | refine bel_drews ?_ _ | refine Bel.ext ?_ _ | refine Bel.alloc ?_ _ | refine Bel.drewN ?_ _)))) | exact Calls.ext_of (q4.out _ (Bel.trans hb (by (try simp only [ext_ext]); repeat (first | exact Bel.refl _ | assumption | refine bel_and ?_ _ | refine bel_drews ?_ _ | refine Bel.ext ?_ _ | refine Bel.alloc ?_ _ | refine Bel.drewN ?_ _)))) | exact Calls.ext_of1 (q5.out _ (Bel.trans hb (by (try simp only [ext_ext]); repeat (first | exact Bel.refl _ | assumption | refine bel_and ?_ _ | refine bel_drews ?_ _ | refine Bel.ext ?_ _ | refine Bel.alloc ?_ _ | refine Bel.drewN ?_ _)))) | exact Calls.ext_of (q5.out _ (Bel.trans hb (by (try simp only [ext_ext]); repeat (first | exact Bel.refl _ | assumption | refine bel_and ?_ _ | refine bel_drews ?_ _ | refine Bel.ext ?_ _ | refine Bel.alloc ?_ _ | refine Bel.drewN ?_ _)))))) | (refine RegC.wpQuiet_split rfl rfl (fun hb => ?_) (fun hb => ?_) <;> simp only [hb])))); all_goals (refine wpQuiet_nil ?_; rintro _ ⟨nq, rfl⟩))
                    clear e1 e2 e3
                    go_wp2
                    go_roundw
                    case rel =>
                      refine ⟨k + 1, by omega, by go_num, ?_, Bel.trans hB (by (try simp only [ext_ext]); repeat (first | exact Bel.refl _ | assumption | refine bel_and ?_ _ | refine bel_drews ?_ _ | refine Bel.ext ?_ _ | refine Bel.alloc ?_ _ | refine Bel.drewN ?_ _))⟩
                      intro j hj
                      rcases Nat.lt_or_ge j k with h | h
                      · exact H1.out j h
                      · obtain rfl : j = k := by omega
                        exact HB.out
                    case measure => (first | (simp [intOf]; done) | (simp [intOf]; omega))
                  · have z1 : (u != x) = true := by simpa using h1
                    have z2 : (u != y) = false := by simpa using h2
                    have z3 : (u == -1) = true := by simpa using h3
                    have z4 : (x != -1) = false := by simpa using h4
                    have z5 : (y != -1) = true := by simpa using h5
                    have HB : Hid (r = 8) := Lib.hid (by rw [← HR.out]; exact brChk_wins (by rw [win_same HL.out HA.out]; exact allB_no hlt (by rw [HV.out, show (u == x) = false by simpa using h1, show (u == y) = true by simpa using h2, z3, z4, z5]; rfl)))
                    clear h1 h2 h3 h4 h5 HV
                    go_wp2
                    ((first | refine RegC.wp_region_ext1 (by kernel_rfl) (by kernel_rfl) ?_ | refine RegC.wp_region_ext0 (by kernel_rfl) (by kernel_rfl) ?_); (repeat (any_goals (first | go_big_quiet_step (first | (go_at_call 83; with_reducible first | exact Calls.ext_of1 (q4.out _ (Bel.trans hb (by (try simp only [ext_ext]); repeat (first | exact Bel.refl _ | assumption | refine bel_and ?_ _ | refine bel_drews ?_ _ | refine Bel.ext ?_ _ | refine Bel.alloc ?_ _ | refine Bel.drewN ?_ _)))) | exact Calls.ext_of (q4.out _ (Bel.trans hb (by (try simp only [ext_ext]); repeat (first | exact Bel.refl _ | assumption | refine bel_and ?_ _ | refine bel_drews ?_ _ | refine Bel.ext ?_ _ | refine Bel.alloc ?_ _ | refine Bel.drewN ?_ _)))) | exact Calls.ext_of1 (q5.out _ (Bel.trans hb (by (try simp only [ext_ext]); repeat (first | exact Bel.refl _ | assumption | refine bel_and ?_ _ | refine bel_drews ?_ _ | refine Bel.ext ?_ _ | refine Bel.alloc ?_ _ | refine Bel.drewN ?_ _)))) | exact Calls.ext_of (q5.out _ (Bel.trans hb (by (try simp only [ext_ext]); repeat (first | exact Bel.refl _ | assumption | refine bel_and ?_ _ | refine bel_drews ?_ _ | refine Bel.ext ?_ _ | refine Bel.alloc ?_ _ | refine Bel.drewN ?_ _)))))) | (refine RegC.wpQuiet_split rfl rfl (fun hb => ?_) (fun hb => ?_) <;> simp only [hb])))); all_goals (refine wpQuiet_nil ?_; rintro _ ⟨nq, rfl⟩))
                    clear e1 e2 e3
                    go_wp2
                    (go_ret; exact ⟨ret_int (by exact HB.out.symm), ext_of (by (try simp only [ext_ext]); repeat (first | exact Bel.refl _ | assumption | refine bel_and ?_ _ | refine bel_drews ?_ _ | refine Bel.ext ?_ _ | refine Bel.alloc ?_ _ | refine Bel.drewN ?_ _))⟩)
                · have z1 : (u != x) = true := by simpa using h1
                  have z2 : (u != y) = false := by simpa using h2
                  have z3 : (u == -1) = true := by simpa using h3
                  have z4 : (x != -1) = true := by simpa using h4
                  have HB : Hid (r = 8) := Lib.hid (by rw [← HR.out]; exact brChk_wins (by rw [win_same HL.out HA.out]; exact allB_no hlt (by rw [HV.out, show (u == x) = false by simpa using h1, show (u == y) = true by simpa using h2, z3, z4]; rfl)))
                  clear h1 h2 h3 h4 HV
                  go_wp2
                  ((first | refine RegC.wp_region_ext1 (by kernel_rfl) (by kernel_rfl) ?_ | refine RegC.wp_region_ext0 (by kernel_rfl) (by kernel_rfl) ?_); (repeat (any_goals (first | go_big_quiet_step (first | (go_at_call 83; with_reducible first | exact Calls.ext_of1 (q4.out _ (Bel.trans hb (by (try simp only [ext_ext]); repeat (first | exact Bel.refl _ | assumption | refine bel_and ?_ _ | refine bel_drews ?_ _ | refine Bel.ext ?_ _ | refine Bel.alloc ?_ _ | refine Bel.drewN ?_ _)))) | exact Calls.ext_of (q4.out _ (Bel.trans hb (by (try simp only [ext_ext]); repeat (first | exact Bel.refl _ | assumption | refine bel_and ?_ _ | refine bel_drews ?_ _ | refine Bel.ext ?_ _ | refine Bel.alloc ?_ _ | refine Bel.drewN ?_ _)))) | exact Calls.ext_of1 (q5.out _ (Bel.trans hb (by (try simp only [ext_ext]); repeat (first | exact Bel.refl _ | assumption | refine bel_and ?_ _ | refine bel_drews ?_ _ | refine Bel.ext ?_ _ | refine Bel.alloc ?_ _ | refine Bel.drewN ?_ _)))) | exact Calls.ext_of (q5.out _ (Bel.trans hb (by (try simp only [ext_ext]); repeat (first | exact Bel.refl _ | assumption | refine bel_and ?_ _ | refine bel_drews ?_ _ | refine Bel.ext ?_ _ | refine Bel.alloc ?_ _ | refine Bel.drewN ?_ _)))))) | (refine RegC.wpQuiet_split rfl rfl (fun hb => ?_) (fun hb => ?_) <;> simp only [hb])))); all_goals (refine wpQuiet_nil ?_; rintro _ ⟨nq, rfl⟩))
                  clear e1 e2 e3
                  go_wp2
                  (go_ret; exact ⟨ret_int (by exact HB.out.symm), ext_of (by (try simp only [ext_ext]); repeat (first | exact Bel.refl _ | assumption | refine bel_and ?_ _ | refine bel_drews ?_ _ | refine Bel.ext ?_ _ | refine Bel.alloc ?_ _ | refine Bel.drewN ?_ _))⟩)
              · have z1 : (u != x) = true := by simpa using h1
                have z2 : (u != y) = false := by simpa using h2
                have z3 : (u == -1) = false := by simpa using h3
                have HB : Hid (winR P W k = true) := Lib.hid (by rw [HV.out, show (u == x) = false by simpa using h1, show (u == y) = true by simpa using h2, z3]; rfl)
                clear h1 h2 h3 HV
                go_wp2
                ((first | refine RegC.wp_region_ext1 (by kernel_rfl) (by kernel_rfl) ?_ | refine RegC.wp_region_ext0 (by kernel_rfl) (by kernel_rfl) ?_); (repeat (any_goals (first | go_big_quiet_step (first | (go_at_call 83; with_reducible first | exact Calls.ext_of1 (q4.out _ (Bel.trans hb (by (try simp only [ext_ext]); repeat (first | exact Bel.refl _ | assumption | refine bel_and ?_ _ | refine bel_drews ?_ _ | refine Bel.ext ?_ _ | refine Bel.alloc ?_ _ | refine Bel.drewN ?_ _)))) | exact Calls.ext_of (q4.out _ (Bel.trans hb (by (try simp only [ext_ext]); repeat (first | exact Bel.refl _ | assumption | refine bel_and ?_ _ | refine bel_drews ?_ _ | refine Bel.ext ?_ _ | refine Bel.alloc ?_ _ | refine Bel.drewN ?_ _)))) | exact Calls.ext_of1 (q5.out _ (Bel.trans hb (by (try simp only [ext_ext]); repeat (first | exact Bel.refl _ | assumption | refine bel_and ?_ _ | refine bel_drews ?_ _ | refine Bel.ext ?_ _ | refine Bel.alloc ?_ _ | refine Bel.drewN ?_ _)))) | exact Calls.ext_of (q5.out _ (Bel.trans hb (by (try simp only [ext_ext]); repeat (first | exact Bel.refl _ | assumption | refine bel_and ?_ _ | refine bel_drews ?_ _ | refine Bel.ext ?_ _ | refine Bel.alloc ?_ _ | refine Bel.drewN ?_ _)))))) | (refine RegC.wpQuiet_split rfl rfl (fun hb => ?_) (fun hb => ?_) <;> simp only [hb])))); all_goals (refine wpQuiet_nil ?_; rintro _ ⟨nq, rfl⟩))
                clear e1 e2 e3
                go_wp2
                go_roundw
                case rel =>
                  refine ⟨k + 1, by omega, by go_num, ?_, Bel.trans hB (by (try simp only [ext_ext]); repeat (first | exact Bel.refl _ | assumption | refine bel_and ?_ _ | refine bel_drews ?_ _ | refine Bel.ext ?_ _ | refine Bel.alloc ?_ _ | refine Bel.drewN ?_ _))⟩
                  intro j hj
                  rcases Nat.lt_or_ge j k with h | h
                  · exact H1.out j h
                  · obtain rfl : j = k := by omega
                    exact HB.out
                case measure => (first | (simp [intOf]; done) | (simp [intOf]; omega))
            · have z1 : (u != x) = true := by simpa using h1
              have z2 : (u != y) = true := by simpa using h2
              have HB : Hid (r = 8) := Lib.hid (by rw [← HR.out]; exact brChk_wins (by rw [win_same HL.out HA.out]; exact allB_no hlt (by rw [HV.out, show (u == x) = false by simpa using h1, show (u == y) = false by simpa using h2]; rfl)))
              clear h1 h2 HV
              go_wp2
              ((first | refine RegC.wp_region_ext1 (by kernel_rfl) (by kernel_rfl) ?_ | refine RegC.wp_region_ext0 (by kernel_rfl) (by kernel_rfl) ?_); (repeat (any_goals (first | go_big_quiet_step (first | (go_at_call 83; with_reducible first | exact Calls.ext_of1 (q4.out _ (Bel.trans hb (by (try simp only [ext_ext]); repeat (first | exact Bel.refl _ | assumption | refine bel_and ?_ _ | refine bel_drews ?_ _ | refine Bel.ext ?_ _ | refine Bel.alloc ?_ _ | refine Bel.drewN ?_ _)))) | exact Calls.ext_of (q4.out _ (Bel.trans hb (by (try simp only [ext_ext]); repeat (first | exact Bel.refl _ | assumption | refine bel_and ?_ _ | refine bel_drews ?_ _ | refine Bel.ext ?_ _ | refine Bel.alloc ?_ _ | refine Bel.drewN ?_ _)))) | exact Calls.ext_of1 (q5.out _ (Bel.trans hb (by (try simp only [ext_ext]); repeat (first | exact Bel.refl _ | assumption | refine bel_and ?_ _ | refine bel_drews ?_ _ | refine Bel.ext ?_ _ | refine Bel.alloc ?_ _ | refine Bel.drewN ?_ _)))) | exact Calls.ext_of (q5.out _ (Bel.trans hb (by (try simp only [ext_ext]); repeat (first | exact Bel.refl _ | assumption | refine bel_and ?_ _ | refine bel_drews ?_ _ | refine Bel.ext ?_ _ | refine Bel.alloc ?_ _ | refine Bel.drewN ?_ _)))))) | (refine RegC.wpQuiet_split rfl rfl (fun hb => ?_) (fun hb => ?_) <;> simp only [hb])))); all_goals (refine wpQuiet_nil ?_; rintro _ ⟨nq, rfl⟩))
              clear e1 e2 e3
              go_wp2
              (go_ret; exact ⟨ret_int (by exact HB.out.symm), ext_of (by (try simp only [ext_ext]); repeat (first | exact Bel.refl _ | assumption | refine bel_and ?_ _ | refine bel_drews ?_ _ | refine Bel.ext ?_ _ | refine Bel.alloc ?_ _ | refine Bel.drewN ?_ _))⟩)
        · obtain rfl : k = W.length := by omega
          have H : Hid (r = 0) := Lib.hid (by rw [← HR.out]; exact brChk_ok HSh.out HA.out (by rw [win_same HL.out HA.out]; exact allB_yes H1.out))
          have xe := BX.eq 1 (.slice B W.length d) rfl
          have xl := BX.lt
          go_wp2
          (go_ret; exact ⟨ret_int (by exact H.out.symm), ext_of (by (try simp only [ext_ext]); repeat (first | exact Bel.refl _ | assumption | refine bel_and ?_ _ | refine bel_drews ?_ _ | refine Bel.ext ?_ _ | refine Bel.alloc ?_ _ | refine Bel.drewN ?_ _))⟩)
end Go.Proofs.Ytkcpnclgcmnlcaa

namespace Go.Pel
open Go Go.RowKit
def brWinner (P W : List Int) : Int × Int := if brChk P W ≠ 0 then (0, 8) else if nodeV P W 0 < 0 then (0, 42) else (nodeV P W 0, 0)
def greatB (m n : Nat) : Bool := decide (70 < m) || decide (70 < n)
end Go.Pel
namespace Go.Proofs.Ytkcpnclgcmnlcaa
open Go.RowKit Go.Pel
set_option maxRecDepth 10000 in
set_option maxHeartbeats 2000000 in
theorem rwon_any (A : Option Addr) (c : Nat) (l : List Pt) (n d x y : Int) (w : World) (hn : -9223372036854775808 ≤ n ∧ n ≤ 9223372036854775807) (hd : -9223372036854775808 ≤ d ∧ d ≤ 9223372036854775807) (hs : Sl w 3 A l.length c (vp l)) (ht : timed l n d = 0) (hx : Ok l x) (hy : Ok l y) :
    Calls Try.prog 107 #[.agg #[.slice A l.length c], .agg #[.int .i64 n, .int .i64 d], .int .i64 x, .int .i64 y] w fun e w' => e = .returned (.int .i64 (wonV l n d x y)) ∧ ∃ x, w' = ext w x := by
  obtain ⟨h0, h2, _⟩ := timed_zero ht
  obtain ⟨h64, hc, hinc⟩ := fieldChk_zero h0
  obtain ⟨v, hv⟩ : ∃ v, wonV l n d x y = v := ⟨_, rfl⟩
  rw [hv]
  have HV := Lib.hid hv
  clear hv
  by_cases hx0 : x < 0
  · have hx1 : x = -1 := by
      rcases hx with h | h
      · exact h
      · have := has_nonneg h0 h; omega
    have hy1 : -1 ≤ y := by
      rcases hy with h | h
      · omega
      · have := has_nonneg h0 h; omega
    have HB : Hid (v = y) := Lib.hid (by rw [← HV.out]; unfold wonV; rw [if_pos (.inl hx0)]; split <;> omega)
    clear hs ht hx hy h0 h2 hc hinc hn hd hx1
    go_enter Try.func107, Try.ntmps107
    go_wp2
    (go_ret; exact ⟨ret_int (by rw [HB.out]), ext_of (by (try simp only [ext_ext]); repeat (first | exact Bel.refl _ | assumption | refine bel_and ?_ _ | refine bel_drews ?_ _ | refine Bel.ext ?_ _ | refine Bel.alloc ?_ _ | refine Bel.drewN ?_ _))⟩)
  · have hxb : hasB l x = true := by rcases hx with h | h; omega; exact h
    have z1 : decide (x < 0) = false := by simpa using hx0
    by_cases hy0 : y < 0
    · have HB : Hid (v = x) := Lib.hid (by rw [← HV.out]; unfold wonV; rw [if_pos (.inr hy0), if_neg (by omega)])
      have z2 : decide (y < 0) = true := by simpa using hy0
      clear hs ht hx hy h0 h2 hc hinc hn hd hxb hy0
      go_enter Try.func107, Try.ntmps107
      go_wp2
      ((first | refine RegC.wp_region_ext1 (by kernel_rfl) (by kernel_rfl) ?_ | refine RegC.wp_region_ext0 (by kernel_rfl) (by kernel_rfl) ?_); (repeat (any_goals (first | go_big_quiet_step (fail) | (refine RegC.wpQuiet_split rfl rfl (fun hb => ?_) (fun hb => ?_) <;> simp only [hb])))); all_goals (refine wpQuiet_nil ?_; rintro _ ⟨nq, rfl⟩))
      go_wp2
      (go_ret; exact ⟨ret_int (by rw [HB.out]), ext_of (by (try simp only [ext_ext]); repeat (first | exact Bel.refl _ | assumption | refine bel_and ?_ _ | refine bel_drews ?_ _ | refine Bel.ext ?_ _ | refine Bel.alloc ?_ _ | refine Bel.drewN ?_ _))⟩)
    · have hyb : hasB l y = true := by rcases hy with h | h; omega; exact h
      have z2 : decide (y < 0) = false := by simpa using hy0
      obtain ⟨px, ex, mx⟩ := ptOf_eq hinc hxb
      obtain ⟨py, ey, my⟩ := ptOf_eq hinc hyb
      have HW := Lib.hid (show v = if leads (ptOf l x) (ptOf l y) n d = true then x else y by rw [← HV.out]; unfold wonV; rw [if_neg (by omega)])
      have hcm := cmpIn_all h0 h2 hn hd (ptOf l y) my (ptOf l x) mx
      obtain ⟨p, hp⟩ : ∃ p, ptOf l x = p := ⟨_, rfl⟩
      obtain ⟨q, hq⟩ : ∃ q, ptOf l y = q := ⟨_, rfl⟩
      rw [hp] at px ex mx HW hcm
      rw [hq] at py ey my HW hcm
      have q1 := Lib.hid (fun W' hb => at03_lit A c l x (lowB l x) (atI_low hinc hxb).1 W' (hs.bel (w' := W') hb) (by omega))
      have q2 := Lib.hid (fun W' hb => at03_lit A c l y (lowB l y) (atI_low hinc hyb).1 W' (hs.bel (w' := W') hb) (by omega))
      obtain ⟨i, hi⟩ : ∃ i, lowB l x = i := ⟨_, rfl⟩
      obtain ⟨k, hk⟩ : ∃ k, lowB l y = k := ⟨_, rfl⟩
      rw [hi] at px q1
      rw [hk] at py q2
      have hil := (List.getElem?_eq_some_iff.1 px).1
      have hkl := (List.getElem?_eq_some_iff.1 py).1
      obtain ⟨b, o, rfl, hb⟩ := hs.at_ (by omega)
      obtain ⟨r0, r1, r2⟩ := pt_at hs px
      obtain ⟨s0, s1, s2⟩ := pt_at hs py
      have hil' : (i : Int) < (l.length : Int) := by omega
      have hkl' : (k : Int) < (l.length : Int) := by omega
      cases hl2 : leads p q n d with
      | true =>
        have HB : Hid (v = x) := Lib.hid (by rw [HW.out, hl2]; rfl)
        have q3 := Lib.hid (fun W' => refLeads_lit p q n d true hcm hl2 W')
        clear ht hx hy h0 h2 hc hinc hn hd hxb hyb hp hq hi hk px py ex ey mx my hl2 hcm HW hx0 hy0
        go_enter Try.func107, Try.ntmps107
        go_wp2
        ((first | refine RegC.wp_region_ext1 (by kernel_rfl) (by kernel_rfl) ?_ | refine RegC.wp_region_ext0 (by kernel_rfl) (by kernel_rfl) ?_); (repeat (any_goals (first | go_big_quiet_step (first | (go_at_call 66; with_reducible first | exact Calls.ext_of1 (q1.out _ (by (try simp only [ext_ext]); repeat (first | exact Bel.refl _ | assumption | refine bel_and ?_ _ | refine bel_drews ?_ _ | refine Bel.ext ?_ _ | refine Bel.alloc ?_ _ | refine Bel.drewN ?_ _))) | exact Calls.ext_of (q1.out _ (by (try simp only [ext_ext]); repeat (first | exact Bel.refl _ | assumption | refine bel_and ?_ _ | refine bel_drews ?_ _ | refine Bel.ext ?_ _ | refine Bel.alloc ?_ _ | refine Bel.drewN ?_ _))) | exact Calls.ext_of1 (q2.out _ (by (try simp only [ext_ext]); repeat (first | exact Bel.refl _ | assumption | refine bel_and ?_ _ | refine bel_drews ?_ _ | refine Bel.ext ?_ _ | refine Bel.alloc ?_ _ | refine Bel.drewN ?_ _))) | exact Calls.ext_of (q2.out _ (by (try simp only [ext_ext]); repeat (first | exact Bel.refl _ | assumption | refine bel_and ?_ _ | refine bel_drews ?_ _ | refine Bel.ext ?_ _ | refine Bel.alloc ?_ _ | refine Bel.drewN ?_ _)))) | (go_at_call 115; with_reducible first | exact Calls.ext_of1 (q3.out _) | exact Calls.ext_of (q3.out _))) | (refine RegC.wpQuiet_split rfl rfl (fun hb => ?_) (fun hb => ?_) <;> simp only [hb])))); all_goals (refine wpQuiet_nil ?_; rintro _ ⟨nq, rfl⟩))
        go_wp2
        (go_ret; exact ⟨ret_int (by rw [HB.out]), ext_of (by (try simp only [ext_ext]); repeat (first | exact Bel.refl _ | assumption | refine bel_and ?_ _ | refine bel_drews ?_ _ | refine Bel.ext ?_ _ | refine Bel.alloc ?_ _ | refine Bel.drewN ?_ _))⟩)
      | false =>
        have HB : Hid (v = y) := Lib.hid (by rw [HW.out, hl2]; rfl)
        have q3 := Lib.hid (fun W' => refLeads_lit p q n d false hcm hl2 W')
        clear ht hx hy h0 h2 hc hinc hn hd hxb hyb hp hq hi hk px py ex ey mx my hl2 hcm HW hx0 hy0
        go_enter Try.func107, Try.ntmps107
        go_wp2
        ((first | refine RegC.wp_region_ext1 (by kernel_rfl) (by kernel_rfl) ?_ | refine RegC.wp_region_ext0 (by kernel_rfl) (by kernel_rfl) ?_); (repeat (any_goals (first | go_big_quiet_step (first | (go_at_call 66; with_reducible first | exact Calls.ext_of1 (q1.out _ (by (try simp only [ext_ext]); repeat (first | exact Bel.refl _ | assumption | refine bel_and ?_ _ | refine bel_drews ?_ _ | refine Bel.ext ?_ _ | refine Bel.alloc ?_ _ | refine Bel.drewN ?_ _))) | exact Calls.ext_of (q1.out _ (by (try simp only [ext_ext]); repeat (first | exact Bel.refl _ | assumption | refine bel_and ?_ _ | refine bel_drews ?_ _ | refine Bel.ext ?_ _ | refine Bel.alloc ?_ _ | refine Bel.drewN ?_ _))) | exact Calls.ext_of1 (q2.out _ (by (try simp only [ext_ext]); repeat (first | exact Bel.refl _ | assumption | refine bel_and ?_ _ | refine bel_drews ?_ _ | refine Bel.ext ?_ _ | refine Bel.alloc ?_ _ | refine Bel.drewN ?_ _))) | exact Calls.ext_of (q2.out _ (by (try simp only [ext_ext]); repeat (first | exact Bel.refl _ | assumption | refine bel_and ?_ _ | refine bel_drews ?_ _ | refine Bel.ext ?_ _ | refine Bel.alloc ?_ _ | refine Bel.drewN ?_ _)))) | (go_at_call 115; with_reducible first | exact Calls.ext_of1 (q3.out _) | exact Calls.ext_of (q3.out _))) | (refine RegC.wpQuiet_split rfl rfl (fun hb => ?_) (fun hb => ?_) <;> simp only [hb])))); all_goals (refine wpQuiet_nil ?_; rintro _ ⟨nq, rfl⟩))
        go_wp2
        (go_ret; exact ⟨ret_int (by rw [HB.out]), ext_of (by (try simp only [ext_ext]); repeat (first | exact Bel.refl _ | assumption | refine bel_and ?_ _ | refine bel_drews ?_ _ | refine Bel.ext ?_ _ | refine Bel.alloc ?_ _ | refine Bel.drewN ?_ _))⟩)
set_option maxRecDepth 10000 in
set_option maxHeartbeats 2000000 in
theorem rknown_any (A B : Option Addr) (c d : Nat) (l : List Pt) (P : List Int) (w : World) (hs : Sl w 3 A l.length c (vp l)) (ht : Sl w 1 B P.length d (vi P)) (hl : l.length ≤ 1000000) (hP : P.length ≤ 1000000) :
    Calls Try.prog 59 #[.agg #[.slice A l.length c], .slice B P.length d] w fun e w' => e = .returned (.bool (knownB l P)) ∧ ∃ x, w' = ext w x := by
  obtain ⟨v, hv⟩ : ∃ v, knownB l P = v := ⟨_, rfl⟩
  rw [hv]
  have HV := Lib.hid hv
  have HN := Lib.hid (show ∀ (k : Nat) (x : Int), P[k]? = some x → x ≠ -1 → hasB l x = false → v = false by
    intro k x hx h1 h2
    rw [← hv, ← Bool.not_eq_true]
    intro h
    rcases known_ok h (List.mem_of_getElem? hx) with h3 | h3
    · exact h1 h3
    · rw [h2] at h3; cases h3)
  have q := Lib.hid (fun W' hb id v' hv' => at03_lit A c l id v' hv' W' (hs.bel (w' := W') hb) hl)
  clear hv hs
  go_enter Try.func59, Try.ntmps59
  go_wp2
  obtain ⟨V, hV⟩ : ∃ V, w.alloc (.cells #[.slice A l.length c] 24) = V := ⟨_, rfl⟩
  have hb : Bel w V := by rw [← hV]; exact (by (try simp only [ext_ext]); repeat (first | exact Bel.refl _ | assumption | refine bel_and ?_ _ | refine bel_drews ?_ _ | refine Bel.ext ?_ _ | refine Bel.alloc ?_ _ | refine Bel.drewN ?_ _))
  have BX : Box V w.heap.size #[.slice A l.length c] := Box.new (W := w) (e := 24) (by rw [← hV]; exact (by (try simp only [ext_ext]); repeat (first | exact Bel.refl _ | assumption | refine bel_and ?_ _ | refine bel_drews ?_ _ | refine Bel.ext ?_ _ | refine Bel.alloc ?_ _ | refine Bel.drewN ?_ _))) rfl
  rw [hV]
  clear hV
  go_loopw [5] (fun i wr => ∃ k : Nat, k ≤ P.length ∧ i = .int .i64 k ∧ (∀ (j : Nat) (x : Int), j < k → P[j]? = some x → hasB l x = true ∨ x = -1) ∧ Bel V wr) (fun i _ => P.length - (intOf i).toNat)
  case atStart => exact ⟨0, Nat.zero_le _, rfl, (fun j x h => absurd h (Nat.not_lt_zero j)), Bel.refl _⟩
  case round =>
    obtain ⟨k, hk, rfl, h1, hB⟩ := hrel
    have H1 := Lib.hid h1
    clear h1
    replace hb := hb.trans hB
    replace BX := BX.bel hB
    by_cases hlt : k < P.length
    · obtain ⟨x, hx⟩ : ∃ x, P[k]? = some x := ⟨_, List.getElem?_eq_getElem hlt⟩
      obtain ⟨b, o, rfl, hbb⟩ := ht.at_ (by omega)
      have r0 := sl_int (ht.bel hb) hx
      have rl : b < wr.heap.size := by have := hb.le; omega
      have HX := Lib.hid hx
      have hlt' : (k : Int) < (P.length : Int) := by omega
      have xe := BX.eq 0 (.slice A l.length c) rfl
      have xl := BX.lt
      clear hx
      by_cases h1 : x = -1
      · have z1 : (x != -1) = false := by simpa using h1
        have HR := Lib.hid h1
        clear h1
        go_wp2
        ((first | refine RegC.wp_region_ext1 (by kernel_rfl) (by kernel_rfl) ?_ | refine RegC.wp_region_ext0 (by kernel_rfl) (by kernel_rfl) ?_); (repeat (any_goals (first | go_big_quiet_step (fail) | (refine RegC.wpQuiet_split rfl rfl (fun hb => ?_) (fun hb => ?_) <;> simp only [hb])))); all_goals (refine wpQuiet_nil ?_; rintro _ ⟨nq, rfl⟩))
        go_wp2
        go_roundw
        case rel =>
          refine ⟨k + 1, by omega, by go_num, ?_, Bel.trans hB (by (try simp only [ext_ext]); repeat (first | exact Bel.refl _ | assumption | refine bel_and ?_ _ | refine bel_drews ?_ _ | refine Bel.ext ?_ _ | refine Bel.alloc ?_ _ | refine Bel.drewN ?_ _))⟩
          intro j y hj hy
          rcases Nat.lt_or_ge j k with h | h
          · exact H1.out j y h hy
          · obtain rfl : j = k := by omega
            rw [HX.out] at hy; obtain rfl := Option.some.inj hy; exact .inr HR.out
        case measure => (first | (simp [intOf]; done) | (simp [intOf]; omega))
      · have z1 : (x != -1) = true := by simpa using h1
        cases hh : hasB l x with
        | true =>
          have HR := Lib.hid hh
          obtain ⟨i, hi⟩ : ∃ i : Nat, atI l x = (i : Int) := by unfold atI; rw [hh, if_pos rfl]; exact ⟨_, rfl⟩
          have q2 := Lib.hid (fun W' hb' => q.out W' hb' x i hi)
          have z2 : decide ((i : Int) < 0) = false := by rw [decide_eq_false_iff_not]; omega
          clear h1 hh hi
          go_wp2
          ((first | refine RegC.wp_region_ext1 (by kernel_rfl) (by kernel_rfl) ?_ | refine RegC.wp_region_ext0 (by kernel_rfl) (by kernel_rfl) ?_); (repeat (any_goals (first | go_big_quiet_step ((go_at_call 66; with_reducible first | exact Calls.ext_of1 (q2.out _ (Bel.trans hb (by (try simp only [ext_ext]); repeat (first | exact Bel.refl _ | assumption | refine bel_and ?_ _ | refine bel_drews ?_ _ | refine Bel.ext ?_ _ | refine Bel.alloc ?_ _ | refine Bel.drewN ?_ _)))) | exact Calls.ext_of (q2.out _ (Bel.trans hb (by (try simp only [ext_ext]); repeat (first | exact Bel.refl _ | assumption | refine bel_and ?_ _ | refine bel_drews ?_ _ | refine Bel.ext ?_ _ | refine Bel.alloc ?_ _ | refine Bel.drewN ?_ _)))))) | (refine RegC.wpQuiet_split rfl rfl (fun hb => ?_) (fun hb => ?_) <;> simp only [hb])))); all_goals (refine wpQuiet_nil ?_; rintro _ ⟨nq, rfl⟩))
          go_wp2
          go_roundw
          case rel =>
            refine ⟨k + 1, by omega, by go_num, ?_, Bel.trans hB (by (try simp only [ext_ext]); repeat (first | exact Bel.refl _ | assumption | refine bel_and ?_ _ | refine bel_drews ?_ _ | refine Bel.ext ?_ _ | refine Bel.alloc ?_ _ | refine Bel.drewN ?_ _))⟩
            intro j y hj hy
            rcases Nat.lt_or_ge j k with h | h
            · exact H1.out j y h hy
            · obtain rfl : j = k := by omega
              rw [HX.out] at hy; obtain rfl := Option.some.inj hy; exact .inl HR.out
          case measure => (first | (simp [intOf]; done) | (simp [intOf]; omega))
        | false =>
          have HB : Hid (v = false) := Lib.hid (HN.out k x HX.out h1 hh)
          have q2 := Lib.hid (fun W' hb' => q.out W' hb' x (-1) (atI_no hh))
          clear h1 hh
          go_wp2
          ((first | refine RegC.wp_region_ext1 (by kernel_rfl) (by kernel_rfl) ?_ | refine RegC.wp_region_ext0 (by kernel_rfl) (by kernel_rfl) ?_); (repeat (any_goals (first | go_big_quiet_step ((go_at_call 66; with_reducible first | exact Calls.ext_of1 (q2.out _ (Bel.trans hb (by (try simp only [ext_ext]); repeat (first | exact Bel.refl _ | assumption | refine bel_and ?_ _ | refine bel_drews ?_ _ | refine Bel.ext ?_ _ | refine Bel.alloc ?_ _ | refine Bel.drewN ?_ _)))) | exact Calls.ext_of (q2.out _ (Bel.trans hb (by (try simp only [ext_ext]); repeat (first | exact Bel.refl _ | assumption | refine bel_and ?_ _ | refine bel_drews ?_ _ | refine Bel.ext ?_ _ | refine Bel.alloc ?_ _ | refine Bel.drewN ?_ _)))))) | (refine RegC.wpQuiet_split rfl rfl (fun hb => ?_) (fun hb => ?_) <;> simp only [hb])))); all_goals (refine wpQuiet_nil ?_; rintro _ ⟨nq, rfl⟩))
          go_wp2
          (go_ret; exact ⟨ret_bool (by rw [HB.out]), ext_of (Bel.trans hb (by (try simp only [ext_ext]); repeat (first | exact Bel.refl _ | assumption | refine bel_and ?_ _ | refine bel_drews ?_ _ | refine Bel.ext ?_ _ | refine Bel.alloc ?_ _ | refine Bel.drewN ?_ _)))⟩)
    · obtain rfl : k = P.length := by omega
      have HB : Hid (v = true) := Lib.hid (by
        rw [← HV.out]; unfold knownB; rw [List.all_eq_true]
        intro x hx
        obtain ⟨j, hj⟩ := List.mem_iff_getElem?.1 hx
        rcases H1.out j x (List.getElem?_eq_some_iff.1 hj).1 hj with h | h
        · simp [h]
        · simp [h])
      go_wp2
      (go_ret; exact ⟨ret_bool (by rw [HB.out]), ext_of (Bel.trans hb (by (try simp only [ext_ext]); repeat (first | exact Bel.refl _ | assumption | refine bel_and ?_ _ | refine bel_drews ?_ _ | refine Bel.ext ?_ _ | refine Bel.alloc ?_ _ | refine Bel.drewN ?_ _)))⟩)
end Go.Proofs.Ytkcpnclgcmnlcaa

namespace Go.Pel
open Go Go.RowKit
/-- all nodes of a valid bracket whose places the field knows are -1, or known -/
theorem node_ok {l : List Pt} {P W : List Int} (h : brChk P W = 0) (hk : knownB l P = true) : ∀ j, j < W.length + P.length → Ok l (nodeV P W j) := by
  obtain ⟨hs, _, hw⟩ := brChk_zero h
  obtain ⟨_, _, hl, _⟩ := shape_parts hs
  have H : ∀ (m j : Nat), j + m = W.length + P.length → 0 < m → Ok l (nodeV P W j) := by
    intro m
    induction m using Nat.strongRecOn with
    | _ m ih =>
      intro j hj hm
      by_cases hjw : j < W.length
      · have e : nodeV P W j = W.getD j 0 := by unfold nodeV; rw [if_pos hjw]
        have h1 := ih (m - (j + 1)) (by omega) (2 * j + 1) (by omega) (by omega)
        have h2 := ih (m - (j + 2)) (by omega) (2 * j + 2) (by omega) (by omega)
        have h3 := hw j hjw
        unfold winOk at h3
        rw [Bool.and_eq_true, Bool.or_eq_true, beq_iff_eq, beq_iff_eq] at h3
        rw [e]
        rcases h3.1 with h3 | h3 <;> rw [h3]
        · exact h1
        · exact h2
      · obtain ⟨x, hx⟩ : ∃ x, P[j - W.length]? = some x := ⟨_, List.getElem?_eq_getElem (by omega)⟩
        have e : nodeV P W j = x := by unfold nodeV; rw [if_neg hjw]; exact getD_some hx
        rw [e]; exact known_ok hk (List.mem_of_getElem? hx)
  exact fun j hj => H (W.length + P.length - j) j (by omega) (by omega)
/-- P10.3: each inner node bears the winner of the two below it -/
def fineB (l : List Pt) (n d : Int) (P W : List Int) : Bool := allB (fun i => W.getD i 0 == wonV l n d (nodeV P W (2 * i + 1)) (nodeV P W (2 * i + 2))) W.length
def brRight (l : List Pt) (n d : Int) (P W : List Int) : Bool × Int := if brChk P W ≠ 0 then (false, 8) else if timed l n d ≠ 0 then (false, timed l n d) else if knownB l P = true then (fineB l n d P W, 0) else (false, 6)
end Go.Pel
namespace Go.Proofs.Ytkcpnclgcmnlcaa
open Go.RowKit Go.Pel
set_option maxRecDepth 10000 in
set_option maxHeartbeats 1000000 in
theorem cloneI_any (A : Option Addr) (c : Nat) (l : List Int) (w : World) (hs : Sl w 1 A l.length c (vi l)) (hn : A = none → c = 0) (hl : l.length ≤ 1000000) :
    Calls Try.prog 75 #[.slice A l.length c] w fun e w' => ∃ A' c', e = .returned (.slice A' l.length c') ∧ ∃ x, w' = ext w x ∧ Own (ext w x) w.heap.size 3 1 A' l.length c' (vi l) := by
  have hnil := fun W n c n' c' => Lib.run_eql_slice_nil (P := Try.prog) W 45 3 A n c n' c' Try.underlying45
  cases A with
  | none =>
    obtain rfl := hn rfl
    obtain rfl : l = [] := by
      cases l with
      | nil => rfl
      | cons p l => obtain ⟨b, o, h, _⟩ := hs.at_ (by simp); cases h
    go_enter Try.func75, Try.ntmps75
    go_wp2
    go_ret
    exact ⟨none, 0, rfl, ext_nil _ _ _ _⟩
  | some a =>
    go_enter Try.func75, Try.ntmps75
    go_wp2_with ((at_builtin; (try refine wpList_unguard rfl (by first | rfl | simp [yielded]) ?_); refine append_new slt_ints (by (try simp only [ext_ext]); repeat (first | exact Bel.refl _ | assumption | refine bel_and ?_ _ | refine bel_drews ?_ _ | refine Bel.ext ?_ _ | refine Bel.alloc ?_ _ | refine Bel.drewN ?_ _)) (hs) (by (try simp only [ext_ext]); repeat (first | exact Bel.refl _ | assumption | refine bel_and ?_ _ | refine bel_drews ?_ _ | refine Bel.ext ?_ _ | refine Bel.alloc ?_ _ | refine Bel.drewN ?_ _)) (vi_one _) (hn) (by omega) rfl _ _ rfl rfl rfl (by simp [go_sem]) ?_; rintro A1 c1 y1 hown1))
    go_ret
    exact ⟨_, _, rfl, own_ret (by (try simp only [ext_ext]); repeat (first | exact Bel.refl _ | assumption | refine bel_and ?_ _ | refine bel_drews ?_ _ | refine Bel.ext ?_ _ | refine Bel.alloc ?_ _ | refine Bel.drewN ?_ _)) (own_swap (by simp [go_sem]) hown1 (by simp [go_sem])) (Bel.refl _) (by simp [go_sem])⟩
set_option maxHeartbeats 1000000 in
theorem bgreat_any (A B : Option Addr) (m n c d : Nat) (w : World) : Calls Try.prog 29 #[.agg #[.slice A m c, .slice B n d]] w fun e w' => e = .returned (.bool (greatB m n)) ∧ ∃ x, w' = ext w x := by
  by_cases h1 : 70 < m
  · have H := Lib.hid (show greatB m n = true by unfold greatB; simp [h1])
    have z1 : decide ((70 : Int) < (m : Int)) = true := by simp; omega
    clear h1
    go_enter Try.func29, Try.ntmps29
    go_wp2
    (go_ret; exact ⟨ret_bool (by rw [H.out]), ext_of (by (try simp only [ext_ext]); repeat (first | exact Bel.refl _ | assumption | refine bel_and ?_ _ | refine bel_drews ?_ _ | refine Bel.ext ?_ _ | refine Bel.alloc ?_ _ | refine Bel.drewN ?_ _))⟩)
  · have z1 : decide ((70 : Int) < (m : Int)) = false := by simp; omega
    by_cases h2 : 70 < n
    · have H := Lib.hid (show greatB m n = true by unfold greatB; simp [h2])
      have z2 : decide ((70 : Int) < (n : Int)) = true := by simp; omega
      clear h1 h2
      go_enter Try.func29, Try.ntmps29
      go_wp2
      (go_ret; exact ⟨ret_bool (by rw [H.out]), ext_of (by (try simp only [ext_ext]); repeat (first | exact Bel.refl _ | assumption | refine bel_and ?_ _ | refine bel_drews ?_ _ | refine Bel.ext ?_ _ | refine Bel.alloc ?_ _ | refine Bel.drewN ?_ _))⟩)
    · have H := Lib.hid (show greatB m n = false by unfold greatB; simp; omega)
      have z2 : decide ((70 : Int) < (n : Int)) = false := by simp; omega
      clear h1 h2
      go_enter Try.func29, Try.ntmps29
      go_wp2
      (go_ret; exact ⟨ret_bool (by rw [H.out]), ext_of (by (try simp only [ext_ext]); repeat (first | exact Bel.refl _ | assumption | refine bel_and ?_ _ | refine bel_drews ?_ _ | refine Bel.ext ?_ _ | refine Bel.alloc ?_ _ | refine Bel.drewN ?_ _))⟩)
set_option maxHeartbeats 1000000 in
theorem bsame_any (A B A' B' : Option Addr) (c d c' d' : Nat) (P W P' W' : List Int) (w : World) (h1 : Sl w 1 A P.length c (vi P)) (h2 : Sl w 1 B W.length d (vi W)) (h3 : Sl w 1 A' P'.length c' (vi P')) (h4 : Sl w 1 B' W'.length d' (vi W'))
    (l1 : P.length ≤ 1000000) (l2 : W.length ≤ 1000000) (l3 : P'.length ≤ 1000000) (l4 : W'.length ≤ 1000000) :
    Calls Try.prog 33 #[.agg #[.slice A P.length c, .slice B W.length d], .agg #[.slice A' P'.length c', .slice B' W'.length d']] w fun e w' => e = .returned (.bool (decide (P = P') && decide (W = W'))) ∧ ∃ x, w' = ext w x := by
  have q1 := Lib.hid (fun V hb => sameIDs_any A A' c c' P P' V (h1.bel (w' := V) hb) (h3.bel hb) l1 l3)
  have q2 := Lib.hid (fun V hb => sameIDs_any B B' d d' W W' V (h2.bel (w' := V) hb) (h4.bel hb) l2 l4)
  clear h1 h2 h3 h4 l1 l2 l3 l4
  cases e1 : decide (P = P') with
  | false =>
    rw [e1] at q1
    clear e1
    go_enter Try.func33, Try.ntmps33
    go_wp2_with ((go_at_call 34; (with_reducible refine (q1.out _ (by (try simp only [ext_ext]); repeat (first | exact Bel.refl _ | assumption | refine bel_and ?_ _ | refine bel_drews ?_ _ | refine Bel.ext ?_ _ | refine Bel.alloc ?_ _ | refine Bel.drewN ?_ _))).mono ?_); rintro e _ ⟨rfl, nx, rfl⟩))
    (go_ret; exact ⟨ret_bool (by rfl), ext_of (by (try simp only [ext_ext]); repeat (first | exact Bel.refl _ | assumption | refine bel_and ?_ _ | refine bel_drews ?_ _ | refine Bel.ext ?_ _ | refine Bel.alloc ?_ _ | refine Bel.drewN ?_ _))⟩)
  | true =>
    rw [e1] at q1
    generalize decide (W = W') = b at q2
    clear e1
    go_enter Try.func33, Try.ntmps33
    go_wp2_with (first | (go_at_call 34; (with_reducible refine (q1.out _ (by (try simp only [ext_ext]); repeat (first | exact Bel.refl _ | assumption | refine bel_and ?_ _ | refine bel_drews ?_ _ | refine Bel.ext ?_ _ | refine Bel.alloc ?_ _ | refine Bel.drewN ?_ _))).mono ?_); rintro e _ ⟨rfl, nx, rfl⟩) | (go_at_call 34; (with_reducible refine (q2.out _ (by (try simp only [ext_ext]); repeat (first | exact Bel.refl _ | assumption | refine bel_and ?_ _ | refine bel_drews ?_ _ | refine Bel.ext ?_ _ | refine Bel.alloc ?_ _ | refine Bel.drewN ?_ _))).mono ?_); rintro e _ ⟨rfl, nx, rfl⟩))
    (go_ret; exact ⟨ret_bool (by simp), ext_of (by (try simp only [ext_ext]); repeat (first | exact Bel.refl _ | assumption | refine bel_and ?_ _ | refine bel_drews ?_ _ | refine Bel.ext ?_ _ | refine Bel.alloc ?_ _ | refine Bel.drewN ?_ _))⟩)
set_option maxRecDepth 10000 in
set_option maxHeartbeats 1000000 in
theorem bwinner_any (A B : Option Addr) (c d : Nat) (P W : List Int) (w : World) (hs : Sl w 1 A P.length c (vi P)) (ht : Sl w 1 B W.length d (vi W)) (hP : P.length ≤ 1000) (hW : W.length ≤ 1000) (hf : ∀ x ∈ P, wf64 x) :
    Calls Try.prog 37 #[.agg #[.slice A P.length c, .slice B W.length d]] w fun e w' => e = .returned (.tuple #[.int .i64 (brWinner P W).1, .int .i64 (brWinner P W).2]) ∧ ∃ x, w' = ext w x := by
  have q1 := Lib.hid (fun V hb => bcheck_any A B c d P W V (hs.bel (w' := V) hb) (ht.bel hb) hP hW hf)
  unfold brWinner
  by_cases h : brChk P W = 0
  · have hl := (shape_parts (brChk_zero h).1).1
    have q2 := Lib.hid (fun V hb => node_int A B c d P W 0 0 _ rfl rfl V (hs.bel (w' := V) hb) (ht.bel hb) hP hW (by omega))
    rw [h] at q1
    rw [if_neg (by simpa using h)]
    generalize nodeV P W 0 = x at q2 ⊢
    clear hs ht hP hW hf h hl
    by_cases hx : x < 0
    · rw [if_pos hx]
      have z1 : decide (0 ≤ x) = false := by rw [decide_eq_false_iff_not]; omega
      go_enter Try.func37, Try.ntmps37
      go_wp2_with (first | (go_at_call 43; (with_reducible refine (q1.out _ (by (try simp only [ext_ext]); repeat (first | exact Bel.refl _ | assumption | refine bel_and ?_ _ | refine bel_drews ?_ _ | refine Bel.ext ?_ _ | refine Bel.alloc ?_ _ | refine Bel.drewN ?_ _))).mono ?_); rintro e _ ⟨rfl, nx, rfl⟩) | (go_at_call 80; (with_reducible refine (q2.out _ (by (try simp only [ext_ext]); repeat (first | exact Bel.refl _ | assumption | refine bel_and ?_ _ | refine bel_drews ?_ _ | refine Bel.ext ?_ _ | refine Bel.alloc ?_ _ | refine Bel.drewN ?_ _))).mono ?_); rintro e _ ⟨rfl, nx, rfl⟩))
      go_ret2
      exact ⟨rfl, ext_of (by (try simp only [ext_ext]); repeat (first | exact Bel.refl _ | assumption | refine bel_and ?_ _ | refine bel_drews ?_ _ | refine Bel.ext ?_ _ | refine Bel.alloc ?_ _ | refine Bel.drewN ?_ _))⟩
    · rw [if_neg hx]
      have z1 : decide (0 ≤ x) = true := by rw [decide_eq_true_eq]; omega
      go_enter Try.func37, Try.ntmps37
      go_wp2_with (first | (go_at_call 43; (with_reducible refine (q1.out _ (by (try simp only [ext_ext]); repeat (first | exact Bel.refl _ | assumption | refine bel_and ?_ _ | refine bel_drews ?_ _ | refine Bel.ext ?_ _ | refine Bel.alloc ?_ _ | refine Bel.drewN ?_ _))).mono ?_); rintro e _ ⟨rfl, nx, rfl⟩) | (go_at_call 80; (with_reducible refine (q2.out _ (by (try simp only [ext_ext]); repeat (first | exact Bel.refl _ | assumption | refine bel_and ?_ _ | refine bel_drews ?_ _ | refine Bel.ext ?_ _ | refine Bel.alloc ?_ _ | refine Bel.drewN ?_ _))).mono ?_); rintro e _ ⟨rfl, nx, rfl⟩))
      go_ret2
      exact ⟨rfl, ext_of (by (try simp only [ext_ext]); repeat (first | exact Bel.refl _ | assumption | refine bel_and ?_ _ | refine bel_drews ?_ _ | refine Bel.ext ?_ _ | refine Bel.alloc ?_ _ | refine Bel.drewN ?_ _))⟩
  · have h8 : brChk P W = 8 := by rcases brChk_cases P W with h1 | h1; exact absurd h1 h; exact h1
    rw [h8] at q1
    rw [if_pos h]
    clear hs ht hP hW hf h h8
    go_enter Try.func37, Try.ntmps37
    go_wp2_with ((go_at_call 43; (with_reducible refine (q1.out _ (by (try simp only [ext_ext]); repeat (first | exact Bel.refl _ | assumption | refine bel_and ?_ _ | refine bel_drews ?_ _ | refine Bel.ext ?_ _ | refine Bel.alloc ?_ _ | refine Bel.drewN ?_ _))).mono ?_); rintro e _ ⟨rfl, nx, rfl⟩))
    go_ret2
    exact ⟨rfl, ext_of (by (try simp only [ext_ext]); repeat (first | exact Bel.refl _ | assumption | refine bel_and ?_ _ | refine bel_drews ?_ _ | refine Bel.ext ?_ _ | refine Bel.alloc ?_ _ | refine Bel.drewN ?_ _))⟩
set_option maxRecDepth 10000 in
set_option maxHeartbeats 1000000 in
theorem rwinner_any (A B : Option Addr) (c d : Nat) (P W : List Int) (w : World) (hs : Sl w 1 A P.length c (vi P)) (ht : Sl w 1 B W.length d (vi W)) (hP : P.length ≤ 1000) (hW : W.length ≤ 1000) :
    Calls Try.prog 38 #[.agg #[.slice A P.length c, .slice B W.length d]] w fun e w' => e = .returned (.tuple #[.int .i64 (brWinner P W).1, .int .i64 (brWinner P W).2]) ∧ ∃ x, w' = ext w x := by
  have q1 := Lib.hid (fun V hb => rcheck_any A B c d P W V (hs.bel (w' := V) hb) (ht.bel hb) hP hW)
  unfold brWinner
  by_cases h : brChk P W = 0
  · have hl := (shape_parts (brChk_zero h).1).1
    have q2 := Lib.hid (fun V hb => rnode_int A B c d P W 0 0 _ rfl rfl V (hs.bel (w' := V) hb) (ht.bel hb) hP hW (by omega))
    rw [h] at q1
    rw [if_neg (by simpa using h)]
    generalize nodeV P W 0 = x at q2 ⊢
    clear hs ht hP hW h hl
    by_cases hx : x < 0
    · rw [if_pos hx]
      have z1 : decide (x < 0) = true := by simpa using hx
      clear hx
      go_enter Try.func38, Try.ntmps38
      go_wp2_with (first | (go_at_call 44; (with_reducible refine (q1.out _ (by (try simp only [ext_ext]); repeat (first | exact Bel.refl _ | assumption | refine bel_and ?_ _ | refine bel_drews ?_ _ | refine Bel.ext ?_ _ | refine Bel.alloc ?_ _ | refine Bel.drewN ?_ _))).mono ?_); rintro e _ ⟨rfl, nx, rfl⟩) | (go_at_call 83; (with_reducible refine (q2.out _ (by (try simp only [ext_ext]); repeat (first | exact Bel.refl _ | assumption | refine bel_and ?_ _ | refine bel_drews ?_ _ | refine Bel.ext ?_ _ | refine Bel.alloc ?_ _ | refine Bel.drewN ?_ _))).mono ?_); rintro e _ ⟨rfl, nx, rfl⟩))
      go_ret2
      exact ⟨rfl, ext_of (by (try simp only [ext_ext]); repeat (first | exact Bel.refl _ | assumption | refine bel_and ?_ _ | refine bel_drews ?_ _ | refine Bel.ext ?_ _ | refine Bel.alloc ?_ _ | refine Bel.drewN ?_ _))⟩
    · rw [if_neg hx]
      have z1 : decide (x < 0) = false := by simpa using hx
      clear hx
      go_enter Try.func38, Try.ntmps38
      go_wp2_with (first | (go_at_call 44; (with_reducible refine (q1.out _ (by (try simp only [ext_ext]); repeat (first | exact Bel.refl _ | assumption | refine bel_and ?_ _ | refine bel_drews ?_ _ | refine Bel.ext ?_ _ | refine Bel.alloc ?_ _ | refine Bel.drewN ?_ _))).mono ?_); rintro e _ ⟨rfl, nx, rfl⟩) | (go_at_call 83; (with_reducible refine (q2.out _ (by (try simp only [ext_ext]); repeat (first | exact Bel.refl _ | assumption | refine bel_and ?_ _ | refine bel_drews ?_ _ | refine Bel.ext ?_ _ | refine Bel.alloc ?_ _ | refine Bel.drewN ?_ _))).mono ?_); rintro e _ ⟨rfl, nx, rfl⟩))
      go_ret2
      exact ⟨rfl, ext_of (by (try simp only [ext_ext]); repeat (first | exact Bel.refl _ | assumption | refine bel_and ?_ _ | refine bel_drews ?_ _ | refine Bel.ext ?_ _ | refine Bel.alloc ?_ _ | refine Bel.drewN ?_ _))⟩
  · have h8 : brChk P W = 8 := by rcases brChk_cases P W with h1 | h1; exact absurd h1 h; exact h1
    rw [h8] at q1
    rw [if_pos h]
    clear hs ht hP hW h h8
    go_enter Try.func38, Try.ntmps38
    go_wp2_with ((go_at_call 44; (with_reducible refine (q1.out _ (by (try simp only [ext_ext]); repeat (first | exact Bel.refl _ | assumption | refine bel_and ?_ _ | refine bel_drews ?_ _ | refine Bel.ext ?_ _ | refine Bel.alloc ?_ _ | refine Bel.drewN ?_ _))).mono ?_); rintro e _ ⟨rfl, nx, rfl⟩))
    go_ret2
    exact ⟨rfl, ext_of (by (try simp only [ext_ext]); repeat (first | exact Bel.refl _ | assumption | refine bel_and ?_ _ | refine bel_drews ?_ _ | refine Bel.ext ?_ _ | refine Bel.alloc ?_ _ | refine Bel.drewN ?_ _))⟩
end Go.Proofs.Ytkcpnclgcmnlcaa

namespace Go.Proofs.Ytkcpnclgcmnlcaa
open Go.RowKit Go.Pel
theorem won_lit (A : Option Addr) (c : Nat) (l : List Pt) (n d x y v : Int) (hv : wonV l n d x y = v) (w : World) (hn : -9223372036854775808 ≤ n ∧ n ≤ 9223372036854775807) (hd : -9223372036854775808 ≤ d ∧ d ≤ 9223372036854775807) (hs : Sl w 3 A l.length c (vp l)) (ht : timed l n d = 0) (hx : Ok l x) (hy : Ok l y) :
    Calls Try.prog 79 #[.agg #[.slice A l.length c], .agg #[.int .i64 n, .int .i64 d], .int .i64 x, .int .i64 y] w fun e w' => e = .returned (.int .i64 v) ∧ ∃ x, w' = ext w x := hv ▸ won_any A c l n d x y w hn hd hs ht (hx.imp (fun h => by omega) id) (hy.imp (fun h => by omega) id)
theorem rwon_lit (A : Option Addr) (c : Nat) (l : List Pt) (n d x y v : Int) (hv : wonV l n d x y = v) (w : World) (hn : -9223372036854775808 ≤ n ∧ n ≤ 9223372036854775807) (hd : -9223372036854775808 ≤ d ∧ d ≤ 9223372036854775807) (hs : Sl w 3 A l.length c (vp l)) (ht : timed l n d = 0) (hx : Ok l x) (hy : Ok l y) :
    Calls Try.prog 107 #[.agg #[.slice A l.length c], .agg #[.int .i64 n, .int .i64 d], .int .i64 x, .int .i64 y] w fun e w' => e = .returned (.int .i64 v) ∧ ∃ x, w' = ext w x := hv ▸ rwon_any A c l n d x y w hn hd hs ht hx hy
set_option maxRecDepth 10000 in
set_option maxHeartbeats 4000000 in
theorem fine_any (A B F : Option Addr) (c d cf : Nat) (P W : List Int) (l : List Pt) (n m : Int) (w : World) (hn : -9223372036854775808 ≤ n ∧ n ≤ 9223372036854775807) (hd : -9223372036854775808 ≤ m ∧ m ≤ 9223372036854775807) (hs : Sl w 1 A P.length c (vi P)) (ht : Sl w 1 B W.length d (vi W)) (hsf : Sl w 3 F l.length cf (vp l)) (hP : P.length ≤ 1000) (hW : W.length ≤ 1000) (hl : l.length ≤ 1000000) (hc : brChk P W = 0) (htm : timed l n m = 0) (hk : knownB l P = true) :
    Calls Try.prog 86 #[.agg #[.slice A P.length c, .slice B W.length d], .agg #[.slice F l.length cf], .agg #[.int .i64 n, .int .i64 m]] w fun e w' => e = .returned (.bool (fineB l n m P W)) ∧ ∃ x, w' = ext w x := by
  have q3 := Lib.hid (fun W' hb i j v hj hv hi => rnode_int A B c d P W i j v hj hv W' (hs.bel (w' := W') hb) (ht.bel hb) hP hW hi)
  have q7 := Lib.hid (fun W' hb x y z hz hx hy => rwon_lit F cf l n m x y z hz W' hn hd (hsf.bel (w' := W') hb) htm hx hy)
  have HO := Lib.hid (node_ok hc hk)
  have HL := Lib.hid (shape_parts (brChk_zero hc).1).2.2.1
  have hWb : (W.length : Int) ≤ 1000 := by omega
  have hPb : (P.length : Int) ≤ 1000 := by omega
  obtain ⟨r, hr⟩ : ∃ r, fineB l n m P W = r := ⟨_, rfl⟩
  rw [hr]
  have HR := Lib.hid hr
  clear hr hn hd hc htm hk hs hsf hP hW hl
  go_enter Try.func86, Try.ntmps86
  go_wp2
  obtain ⟨V, hV⟩ : ∃ V, ((w.alloc (.cells #[.slice A P.length c, .slice B W.length d] 47)).alloc (.cells #[.slice F l.length cf] 24)).alloc (.cells #[.int .i64 n, .int .i64 m] 49) = V := ⟨_, rfl⟩
  have hb : Bel w V := by rw [← hV]; exact (by (try simp only [ext_ext]); repeat (first | exact Bel.refl _ | assumption | refine bel_and ?_ _ | refine bel_drews ?_ _ | refine Bel.ext ?_ _ | refine Bel.alloc ?_ _ | refine Bel.drewN ?_ _))
  have BB : Box V w.heap.size #[.slice A P.length c, .slice B W.length d] := Box.new (W := w) (e := 47) (by rw [← hV]; exact (by (try simp only [ext_ext]); repeat (first | exact Bel.refl _ | assumption | refine bel_and ?_ _ | refine bel_drews ?_ _ | refine Bel.ext ?_ _ | refine Bel.alloc ?_ _ | refine Bel.drewN ?_ _))) rfl
  have BF : Box V (w.heap.size + 1) #[.slice F l.length cf] := Box.new (W := w.alloc (.cells #[.slice A P.length c, .slice B W.length d] 47)) (e := 24) (by rw [← hV]; exact (by (try simp only [ext_ext]); repeat (first | exact Bel.refl _ | assumption | refine bel_and ?_ _ | refine bel_drews ?_ _ | refine Bel.ext ?_ _ | refine Bel.alloc ?_ _ | refine Bel.drewN ?_ _))) (by simp)
  have BT : Box V (w.heap.size + 2) #[.int .i64 n, .int .i64 m] := Box.new (W := (w.alloc (.cells #[.slice A P.length c, .slice B W.length d] 47)).alloc (.cells #[.slice F l.length cf] 24)) (e := 49) (by rw [← hV]; exact (by (try simp only [ext_ext]); repeat (first | exact Bel.refl _ | assumption | refine bel_and ?_ _ | refine bel_drews ?_ _ | refine Bel.ext ?_ _ | refine Bel.alloc ?_ _ | refine Bel.drewN ?_ _))) (by simp)
  rw [hV]
  clear hV
  go_loopw [7] (fun i wr => ∃ k : Nat, k ≤ W.length ∧ i = .int .i64 k ∧ (∀ j, j < k → (W.getD j 0 == wonV l n m (nodeV P W (2 * j + 1)) (nodeV P W (2 * j + 2))) = true) ∧ Bel V wr) (fun i _ => W.length - (intOf i).toNat)
  case atStart => exact ⟨0, Nat.zero_le _, rfl, (fun j h => absurd h (Nat.not_lt_zero j)), Bel.refl _⟩
  case round =>
    obtain ⟨k, hk, rfl, hw1, hB⟩ := hrel
    have H1 := Lib.hid hw1
    clear hw1
    replace hb := hb.trans hB
    replace BB := BB.bel hB
    replace BF := BF.bel hB
    replace BT := BT.bel hB
    by_cases hlt : k < W.length
    · obtain ⟨u, hu⟩ : ∃ u, W[k]? = some u := ⟨_, List.getElem?_eq_getElem hlt⟩
      obtain ⟨bB, oB, rfl, hbB⟩ := ht.at_ (by omega)
      have r0 := sl_int (ht.bel hb) hu
      have rl : bB < wr.heap.size := by have := hb.le; omega
      obtain ⟨x, hx⟩ : ∃ x, nodeV P W (2 * k + 1) = x := ⟨_, rfl⟩
      obtain ⟨y, hy⟩ : ∃ y, nodeV P W (2 * k + 2) = y := ⟨_, rfl⟩
      obtain ⟨z, hz⟩ : ∃ z, wonV l n m x y = z := ⟨_, rfl⟩
      have q4 := Lib.hid (fun W' hb' => q3.out W' hb' (2 * k + 1) (2 * (k : Int) + 1) x (by omega) hx (by have := HL.out; omega))
      have q5 := Lib.hid (fun W' hb' => q3.out W' hb' (2 * k + 2) (2 * (k : Int) + 2) y (by omega) hy (by have := HL.out; omega))
      have q6 := Lib.hid (fun W' hb' => q7.out W' hb' x y z hz (hx ▸ HO.out (2 * k + 1) (by have := HL.out; omega)) (hy ▸ HO.out (2 * k + 2) (by have := HL.out; omega)))
      have HV : Hid ((W.getD k 0 == wonV l n m (nodeV P W (2 * k + 1)) (nodeV P W (2 * k + 2))) = (u == z)) := Lib.hid (by rw [getD_some hu, hx, hy, hz])
      have hlt' : (k : Int) < (W.length : Int) := by omega
      have e1 : IntKind.i64.wrap (2 * (k : Int)) = 2 * (k : Int) := IntWalk.i64_in _ (by omega)
      have e2 : IntKind.i64.wrap (2 * (k : Int) + 1) = 2 * (k : Int) + 1 := IntWalk.i64_in _ (by omega)
      have e3 : IntKind.i64.wrap (2 * (k : Int) + 2) = 2 * (k : Int) + 2 := IntWalk.i64_in _ (by omega)
      have xe0 := BB.eq 0 (.slice A P.length c) rfl
      have xe1 := BB.eq 1 (.slice (some ⟨bB, oB, none⟩) W.length d) rfl
      have xe2 := BF.eq 0 (.slice F l.length cf) rfl
      have xe3 := BT.eq 0 (.int .i64 n) rfl
      have xe4 := BT.eq 1 (.int .i64 m) rfl
      have xl0 := BB.lt
      have xl1 := BF.lt
      have xl2 := BT.lt
      clear hu hx hy hz
      by_cases huz : u = z
      · have z1 : (u != z) = false := by simpa using huz
        have HB := Lib.hid (show (W.getD k 0 == wonV l n m (nodeV P W (2 * k + 1)) (nodeV P W (2 * k + 2))) = true by rw [HV.out]; simpa using huz)
        clear huz HV
        go_wp2
        ((first | refine RegC.wp_region_ext1 (by kernel_rfl) (by kernel_rfl) ?_ | refine RegC.wp_region_ext0 (by kernel_rfl) (by kernel_rfl) ?_); (repeat (any_goals (first | go_big_quiet_step (first | (go_at_call 83; with_reducible first | exact Calls.ext_of1 (q4.out _ (Bel.trans hb (by (try simp only [ext_ext]); repeat (first | exact Bel.refl _ | assumption | refine bel_and ?_ _ | refine bel_drews ?_ _ | refine Bel.ext ?_ _ | refine Bel.alloc ?_ _ | refine Bel.drewN ?_ _)))) | exact Calls.ext_of (q4.out _ (Bel.trans hb (by (try simp only [ext_ext]); repeat (first | exact Bel.refl _ | assumption | refine bel_and ?_ _ | refine bel_drews ?_ _ | refine Bel.ext ?_ _ | refine Bel.alloc ?_ _ | refine Bel.drewN ?_ _)))) | exact Calls.ext_of1 (q5.out _ (Bel.trans hb (by (try simp only [ext_ext]); repeat (first | exact Bel.refl _ | assumption | refine bel_and ?_ _ | refine bel_drews ?_ _ | refine Bel.ext ?_ _ | refine Bel.alloc ?_ _ | refine Bel.drewN ?_ _)))) | exact Calls.ext_of (q5.out _ (Bel.trans hb (by (try simp only [ext_ext]); repeat (first | exact Bel.refl _ | assumption | refine bel_and ?_ _ | refine bel_drews ?_ _ | refine Bel.ext ?_ _ | refine Bel.alloc ?_ _ | refine Bel.drewN ?_ _))))) | (go_at_call 107; with_reducible first | exact Calls.ext_of1 (q6.out _ (Bel.trans hb (by (try simp only [ext_ext]); repeat (first | exact Bel.refl _ | assumption | refine bel_and ?_ _ | refine bel_drews ?_ _ | refine Bel.ext ?_ _ | refine Bel.alloc ?_ _ | refine Bel.drewN ?_ _)))) | exact Calls.ext_of (q6.out _ (Bel.trans hb (by (try simp only [ext_ext]); repeat (first | exact Bel.refl _ | assumption | refine bel_and ?_ _ | refine bel_drews ?_ _ | refine Bel.ext ?_ _ | refine Bel.alloc ?_ _ | refine Bel.drewN ?_ _)))))) | (refine RegC.wpQuiet_split rfl rfl (fun hb => ?_) (fun hb => ?_) <;> simp only [hb])))); all_goals (refine wpQuiet_nil ?_; rintro _ ⟨nq, rfl⟩))
        go_wp2
        go_roundw
        case rel =>
          refine ⟨k + 1, by omega, by go_num, ?_, Bel.trans hB (by (try simp only [ext_ext]); repeat (first | exact Bel.refl _ | assumption | refine bel_and ?_ _ | refine bel_drews ?_ _ | refine Bel.ext ?_ _ | refine Bel.alloc ?_ _ | refine Bel.drewN ?_ _))⟩
          intro j hj
          rcases Nat.lt_or_ge j k with h | h
          · exact H1.out j h
          · obtain rfl : j = k := by omega
            exact HB.out
        case measure => (first | (simp [intOf]; done) | (simp [intOf]; omega))
      · have z1 : (u != z) = true := by simpa using huz
        have HB := Lib.hid (show r = false by rw [← HR.out]; unfold fineB; exact allB_no hlt (by rw [HV.out]; simpa using huz))
        clear huz HV
        go_wp2
        ((first | refine RegC.wp_region_ext1 (by kernel_rfl) (by kernel_rfl) ?_ | refine RegC.wp_region_ext0 (by kernel_rfl) (by kernel_rfl) ?_); (repeat (any_goals (first | go_big_quiet_step (first | (go_at_call 83; with_reducible first | exact Calls.ext_of1 (q4.out _ (Bel.trans hb (by (try simp only [ext_ext]); repeat (first | exact Bel.refl _ | assumption | refine bel_and ?_ _ | refine bel_drews ?_ _ | refine Bel.ext ?_ _ | refine Bel.alloc ?_ _ | refine Bel.drewN ?_ _)))) | exact Calls.ext_of (q4.out _ (Bel.trans hb (by (try simp only [ext_ext]); repeat (first | exact Bel.refl _ | assumption | refine bel_and ?_ _ | refine bel_drews ?_ _ | refine Bel.ext ?_ _ | refine Bel.alloc ?_ _ | refine Bel.drewN ?_ _)))) | exact Calls.ext_of1 (q5.out _ (Bel.trans hb (by (try simp only [ext_ext]); repeat (first | exact Bel.refl _ | assumption | refine bel_and ?_ _ | refine bel_drews ?_ _ | refine Bel.ext ?_ _ | refine Bel.alloc ?_ _ | refine Bel.drewN ?_ _)))) | exact Calls.ext_of (q5.out _ (Bel.trans hb (by (try simp only [ext_ext]); repeat (first | exact Bel.refl _ | assumption | refine bel_and ?_ _ | refine bel_drews ?_ _ | refine Bel.ext ?_ _ | refine Bel.alloc ?_ _ | refine Bel.drewN ?_ _))))) | (go_at_call 107; with_reducible first | exact Calls.ext_of1 (q6.out _ (Bel.trans hb (by (try simp only [ext_ext]); repeat (first | exact Bel.refl _ | assumption | refine bel_and ?_ _ | refine bel_drews ?_ _ | refine Bel.ext ?_ _ | refine Bel.alloc ?_ _ | refine Bel.drewN ?_ _)))) | exact Calls.ext_of (q6.out _ (Bel.trans hb (by (try simp only [ext_ext]); repeat (first | exact Bel.refl _ | assumption | refine bel_and ?_ _ | refine bel_drews ?_ _ | refine Bel.ext ?_ _ | refine Bel.alloc ?_ _ | refine Bel.drewN ?_ _)))))) | (refine RegC.wpQuiet_split rfl rfl (fun hb => ?_) (fun hb => ?_) <;> simp only [hb])))); all_goals (refine wpQuiet_nil ?_; rintro _ ⟨nq, rfl⟩))
        go_wp2
        (go_ret; exact ⟨ret_bool (by rw [HB.out]), ext_of (Bel.trans hb (by (try simp only [ext_ext]); repeat (first | exact Bel.refl _ | assumption | refine bel_and ?_ _ | refine bel_drews ?_ _ | refine Bel.ext ?_ _ | refine Bel.alloc ?_ _ | refine Bel.drewN ?_ _)))⟩)
    · obtain rfl : k = W.length := by omega
      have HB : Hid (r = true) := Lib.hid (by rw [← HR.out]; unfold fineB; exact allB_yes H1.out)
      have xe1 := BB.eq 1 (.slice B W.length d) rfl
      have xl0 := BB.lt
      go_wp2
      (go_ret; exact ⟨ret_bool (by rw [HB.out]), ext_of (Bel.trans hb (by (try simp only [ext_ext]); repeat (first | exact Bel.refl _ | assumption | refine bel_and ?_ _ | refine bel_drews ?_ _ | refine Bel.ext ?_ _ | refine Bel.alloc ?_ _ | refine Bel.drewN ?_ _)))⟩)
set_option maxRecDepth 10000 in
set_option maxHeartbeats 4000000 in
theorem bright_any (A B F : Option Addr) (c d cf : Nat) (P W : List Int) (l : List Pt) (n m : Int) (w : World) (hn : -9223372036854775808 ≤ n ∧ n ≤ 9223372036854775807) (hd : -9223372036854775808 ≤ m ∧ m ≤ 9223372036854775807) (hs : Sl w 1 A P.length c (vi P)) (ht : Sl w 1 B W.length d (vi W)) (hsf : Sl w 3 F l.length cf (vp l)) (hP : P.length ≤ 1000) (hW : W.length ≤ 1000) (hl : l.length ≤ 1000000) (hf : ∀ x ∈ P, wf64 x) :
    Calls Try.prog 41 #[.agg #[.slice A P.length c, .slice B W.length d], .agg #[.slice F l.length cf], .agg #[.int .i64 n, .int .i64 m]] w fun e w' => e = .returned (.tuple #[.bool (brRight l n m P W).1, .int .i64 (brRight l n m P W).2]) ∧ ∃ x, w' = ext w x := by
  have q1 := Lib.hid (fun V hb => bcheck_any A B c d P W V (hs.bel (w' := V) hb) (ht.bel hb) hP hW hf)
  have q2 := Lib.hid (fun V hb => btimed_any F cf l n m V hn hd (hsf.bel (w' := V) hb))
  unfold brRight
  by_cases hc : brChk P W = 0
  case neg =>
    have h8 : brChk P W = 8 := by rcases brChk_cases P W with h1 | h1; exact absurd h1 hc; exact h1
    rw [h8] at q1
    rw [if_pos hc]
    clear hs ht hsf hP hW hc h8 hn hd
    go_enter Try.func41, Try.ntmps41
    go_wp2_with ((go_at_call 43; (with_reducible refine (q1.out _ (by (try simp only [ext_ext]); repeat (first | exact Bel.refl _ | assumption | refine bel_and ?_ _ | refine bel_drews ?_ _ | refine Bel.ext ?_ _ | refine Bel.alloc ?_ _ | refine Bel.drewN ?_ _))).mono ?_); rintro e _ ⟨rfl, nx, rfl⟩))
    go_ret2
    exact ⟨rfl, ext_of (by (try simp only [ext_ext]); repeat (first | exact Bel.refl _ | assumption | refine bel_and ?_ _ | refine bel_drews ?_ _ | refine Bel.ext ?_ _ | refine Bel.alloc ?_ _ | refine Bel.drewN ?_ _))⟩
  rw [hc] at q1
  rw [if_neg (by simpa using hc)]
  by_cases htm : timed l n m = 0
  case neg =>
    obtain ⟨v, hv⟩ : ∃ v, timed l n m = v := ⟨_, rfl⟩
    rw [hv] at q2 htm ⊢
    have z1 : (v != 0) = true := by simpa using htm
    rw [if_pos htm]
    clear hs ht hsf hP hW hc hn hd hv htm
    go_enter Try.func41, Try.ntmps41
    go_wp2_with (first | (go_at_call 43; (with_reducible refine (q1.out _ (by (try simp only [ext_ext]); repeat (first | exact Bel.refl _ | assumption | refine bel_and ?_ _ | refine bel_drews ?_ _ | refine Bel.ext ?_ _ | refine Bel.alloc ?_ _ | refine Bel.drewN ?_ _))).mono ?_); rintro e _ ⟨rfl, nx, rfl⟩) | (go_at_call 74; (with_reducible refine (q2.out _ (by (try simp only [ext_ext]); repeat (first | exact Bel.refl _ | assumption | refine bel_and ?_ _ | refine bel_drews ?_ _ | refine Bel.ext ?_ _ | refine Bel.alloc ?_ _ | refine Bel.drewN ?_ _))).mono ?_); rintro e _ ⟨rfl, nx, rfl⟩))
    go_ret2
    exact ⟨rfl, ext_of (by (try simp only [ext_ext]); repeat (first | exact Bel.refl _ | assumption | refine bel_and ?_ _ | refine bel_drews ?_ _ | refine Bel.ext ?_ _ | refine Bel.alloc ?_ _ | refine Bel.drewN ?_ _))⟩
  rw [htm] at q2
  rw [if_neg (by simpa using htm)]
  have hinc := (fieldChk_zero (timed_zero htm).1).2.2
  have q8 := Lib.hid (fun V hb => known_any F A cf c l P V (hsf.bel (w' := V) hb) (hs.bel hb) hl (by omega) hinc)
  cases hk : knownB l P with
  | false =>
    rw [hk] at q8
    rw [if_neg (by decide)]
    clear hs ht hsf hP hW hc hn hd htm hinc hk
    go_enter Try.func41, Try.ntmps41
    go_wp2_with (first | (go_at_call 43; (with_reducible refine (q1.out _ (by (try simp only [ext_ext]); repeat (first | exact Bel.refl _ | assumption | refine bel_and ?_ _ | refine bel_drews ?_ _ | refine Bel.ext ?_ _ | refine Bel.alloc ?_ _ | refine Bel.drewN ?_ _))).mono ?_); rintro e _ ⟨rfl, nx, rfl⟩) | (go_at_call 74; (with_reducible refine (q2.out _ (by (try simp only [ext_ext]); repeat (first | exact Bel.refl _ | assumption | refine bel_and ?_ _ | refine bel_drews ?_ _ | refine Bel.ext ?_ _ | refine Bel.alloc ?_ _ | refine Bel.drewN ?_ _))).mono ?_); rintro e _ ⟨rfl, nx, rfl⟩) | (go_at_call 76; (with_reducible refine (q8.out _ (by (try simp only [ext_ext]); repeat (first | exact Bel.refl _ | assumption | refine bel_and ?_ _ | refine bel_drews ?_ _ | refine Bel.ext ?_ _ | refine Bel.alloc ?_ _ | refine Bel.drewN ?_ _))).mono ?_); rintro e _ ⟨rfl, nx, rfl⟩))
    go_ret2
    exact ⟨rfl, ext_of (by (try simp only [ext_ext]); repeat (first | exact Bel.refl _ | assumption | refine bel_and ?_ _ | refine bel_drews ?_ _ | refine Bel.ext ?_ _ | refine Bel.alloc ?_ _ | refine Bel.drewN ?_ _))⟩
  | true =>
  rw [hk] at q8
  rw [if_pos rfl]
  have q3 := Lib.hid (fun W' hb i j v hj hv hi => node_int A B c d P W i j v hj hv W' (hs.bel (w' := W') hb) (ht.bel hb) hP hW hi)
  have q7 := Lib.hid (fun W' hb x y z hz hx hy => won_lit F cf l n m x y z hz W' hn hd (hsf.bel (w' := W') hb) htm hx hy)
  have HO := Lib.hid (node_ok hc hk)
  have HL := Lib.hid (shape_parts (brChk_zero hc).1).2.2.1
  have hWb : (W.length : Int) ≤ 1000 := by omega
  have hPb : (P.length : Int) ≤ 1000 := by omega
  obtain ⟨r, hr⟩ : ∃ r, fineB l n m P W = r := ⟨_, rfl⟩
  rw [hr]
  have HR := Lib.hid hr
  clear hr hn hd hc htm hk hs hsf hP hW hl hinc hf
  go_enter Try.func41, Try.ntmps41
  go_wp2_with (first | (go_at_call 43; (with_reducible refine (q1.out _ (by (try simp only [ext_ext]); repeat (first | exact Bel.refl _ | assumption | refine bel_and ?_ _ | refine bel_drews ?_ _ | refine Bel.ext ?_ _ | refine Bel.alloc ?_ _ | refine Bel.drewN ?_ _))).mono ?_); rintro e _ ⟨rfl, n1, rfl⟩) | (go_at_call 74; (with_reducible refine (q2.out _ (by (try simp only [ext_ext]); repeat (first | exact Bel.refl _ | assumption | refine bel_and ?_ _ | refine bel_drews ?_ _ | refine Bel.ext ?_ _ | refine Bel.alloc ?_ _ | refine Bel.drewN ?_ _))).mono ?_); rintro e _ ⟨rfl, n2, rfl⟩) | (go_at_call 76; (with_reducible refine (q8.out _ (by (try simp only [ext_ext]); repeat (first | exact Bel.refl _ | assumption | refine bel_and ?_ _ | refine bel_drews ?_ _ | refine Bel.ext ?_ _ | refine Bel.alloc ?_ _ | refine Bel.drewN ?_ _))).mono ?_); rintro e _ ⟨rfl, n3, rfl⟩))
  obtain ⟨V, hV⟩ : ∃ V, ext (((w.alloc (.cells #[.slice A P.length c, .slice B W.length d] 47)).alloc (.cells #[.slice F l.length cf] 24)).alloc (.cells #[.int .i64 n, .int .i64 m] 49)) ((n1.and n2).and n3) = V := ⟨_, rfl⟩
  have hb : Bel w V := by rw [← hV]; exact (by (try simp only [ext_ext]); repeat (first | exact Bel.refl _ | assumption | refine bel_and ?_ _ | refine bel_drews ?_ _ | refine Bel.ext ?_ _ | refine Bel.alloc ?_ _ | refine Bel.drewN ?_ _))
  have BB : Box V w.heap.size #[.slice A P.length c, .slice B W.length d] := Box.new (W := w) (e := 47) (by rw [← hV]; exact (by (try simp only [ext_ext]); repeat (first | exact Bel.refl _ | assumption | refine bel_and ?_ _ | refine bel_drews ?_ _ | refine Bel.ext ?_ _ | refine Bel.alloc ?_ _ | refine Bel.drewN ?_ _))) rfl
  have BF : Box V (w.heap.size + 1) #[.slice F l.length cf] := Box.new (W := w.alloc (.cells #[.slice A P.length c, .slice B W.length d] 47)) (e := 24) (by rw [← hV]; exact (by (try simp only [ext_ext]); repeat (first | exact Bel.refl _ | assumption | refine bel_and ?_ _ | refine bel_drews ?_ _ | refine Bel.ext ?_ _ | refine Bel.alloc ?_ _ | refine Bel.drewN ?_ _))) (by simp)
  have BT : Box V (w.heap.size + 2) #[.int .i64 n, .int .i64 m] := Box.new (W := (w.alloc (.cells #[.slice A P.length c, .slice B W.length d] 47)).alloc (.cells #[.slice F l.length cf] 24)) (e := 49) (by rw [← hV]; exact (by (try simp only [ext_ext]); repeat (first | exact Bel.refl _ | assumption | refine bel_and ?_ _ | refine bel_drews ?_ _ | refine Bel.ext ?_ _ | refine Bel.alloc ?_ _ | refine Bel.drewN ?_ _))) (by simp)
  rw [hV]
  clear hV
  go_loopw [31] (fun i wr => ∃ k : Nat, k ≤ W.length ∧ i = .int .i64 k ∧ (∀ j, j < k → (W.getD j 0 == wonV l n m (nodeV P W (2 * j + 1)) (nodeV P W (2 * j + 2))) = true) ∧ Bel V wr) (fun i _ => W.length - (intOf i).toNat)
  case atStart => exact ⟨0, Nat.zero_le _, rfl, (fun j h => absurd h (Nat.not_lt_zero j)), Bel.refl _⟩
  case round =>
    obtain ⟨k, hk, rfl, hw1, hB⟩ := hrel
    have H1 := Lib.hid hw1
    clear hw1
    replace hb := hb.trans hB
    replace BB := BB.bel hB
    replace BF := BF.bel hB
    replace BT := BT.bel hB
    by_cases hlt : k < W.length
    · obtain ⟨u, hu⟩ : ∃ u, W[k]? = some u := ⟨_, List.getElem?_eq_getElem hlt⟩
      obtain ⟨bB, oB, rfl, hbB⟩ := ht.at_ (by omega)
      have r0 := sl_int (ht.bel hb) hu
      have rl : bB < wr.heap.size := by have := hb.le; omega
      obtain ⟨x, hx⟩ : ∃ x, nodeV P W (2 * k + 1) = x := ⟨_, rfl⟩
      obtain ⟨y, hy⟩ : ∃ y, nodeV P W (2 * k + 2) = y := ⟨_, rfl⟩
      obtain ⟨z, hz⟩ : ∃ z, wonV l n m x y = z := ⟨_, rfl⟩
      have q4 := Lib.hid (fun W' hb' => q3.out W' hb' (2 * k + 1) (2 * (k : Int) + 1) x (by omega) hx (by have := HL.out; omega))
      have q5 := Lib.hid (fun W' hb' => q3.out W' hb' (2 * k + 2) (2 * (k : Int) + 2) y (by omega) hy (by have := HL.out; omega))
      have q6 := Lib.hid (fun W' hb' => q7.out W' hb' x y z hz (hx ▸ HO.out (2 * k + 1) (by have := HL.out; omega)) (hy ▸ HO.out (2 * k + 2) (by have := HL.out; omega)))
      have HV : Hid ((W.getD k 0 == wonV l n m (nodeV P W (2 * k + 1)) (nodeV P W (2 * k + 2))) = (u == z)) := Lib.hid (by rw [getD_some hu, hx, hy, hz])
      have hlt' : (k : Int) < (W.length : Int) := by omega
      have e1 : IntKind.i64.wrap (2 * (k : Int)) = 2 * (k : Int) := IntWalk.i64_in _ (by omega)
      have e2 : IntKind.i64.wrap (2 * (k : Int) + 1) = 2 * (k : Int) + 1 := IntWalk.i64_in _ (by omega)
      have e3 : IntKind.i64.wrap (2 * (k : Int) + 2) = 2 * (k : Int) + 2 := IntWalk.i64_in _ (by omega)
      have xe0 := BB.eq 0 (.slice A P.length c) rfl
      have xe1 := BB.eq 1 (.slice (some ⟨bB, oB, none⟩) W.length d) rfl
      have xe2 := BF.eq 0 (.slice F l.length cf) rfl
      have xe3 := BT.eq 0 (.int .i64 n) rfl
      have xe4 := BT.eq 1 (.int .i64 m) rfl
      have xl0 := BB.lt
      have xl1 := BF.lt
      have xl2 := BT.lt
      clear hu hx hy hz
      by_cases huz : u = z
      · have z1 : (u != z) = false := by simpa using huz
        have HB := Lib.hid (show (W.getD k 0 == wonV l n m (nodeV P W (2 * k + 1)) (nodeV P W (2 * k + 2))) = true by rw [HV.out]; simpa using huz)
        clear huz HV
        go_wp2
        ((first | refine RegC.wp_region_ext1 (by kernel_rfl) (by kernel_rfl) ?_ | refine RegC.wp_region_ext0 (by kernel_rfl) (by kernel_rfl) ?_); (repeat (any_goals (first | go_big_quiet_step (first | (go_at_call 80; with_reducible first | exact Calls.ext_of1 (q4.out _ (Bel.trans hb (by (try simp only [ext_ext]); repeat (first | exact Bel.refl _ | assumption | refine bel_and ?_ _ | refine bel_drews ?_ _ | refine Bel.ext ?_ _ | refine Bel.alloc ?_ _ | refine Bel.drewN ?_ _)))) | exact Calls.ext_of (q4.out _ (Bel.trans hb (by (try simp only [ext_ext]); repeat (first | exact Bel.refl _ | assumption | refine bel_and ?_ _ | refine bel_drews ?_ _ | refine Bel.ext ?_ _ | refine Bel.alloc ?_ _ | refine Bel.drewN ?_ _)))) | exact Calls.ext_of1 (q5.out _ (Bel.trans hb (by (try simp only [ext_ext]); repeat (first | exact Bel.refl _ | assumption | refine bel_and ?_ _ | refine bel_drews ?_ _ | refine Bel.ext ?_ _ | refine Bel.alloc ?_ _ | refine Bel.drewN ?_ _)))) | exact Calls.ext_of (q5.out _ (Bel.trans hb (by (try simp only [ext_ext]); repeat (first | exact Bel.refl _ | assumption | refine bel_and ?_ _ | refine bel_drews ?_ _ | refine Bel.ext ?_ _ | refine Bel.alloc ?_ _ | refine Bel.drewN ?_ _))))) | (go_at_call 79; with_reducible first | exact Calls.ext_of1 (q6.out _ (Bel.trans hb (by (try simp only [ext_ext]); repeat (first | exact Bel.refl _ | assumption | refine bel_and ?_ _ | refine bel_drews ?_ _ | refine Bel.ext ?_ _ | refine Bel.alloc ?_ _ | refine Bel.drewN ?_ _)))) | exact Calls.ext_of (q6.out _ (Bel.trans hb (by (try simp only [ext_ext]); repeat (first | exact Bel.refl _ | assumption | refine bel_and ?_ _ | refine bel_drews ?_ _ | refine Bel.ext ?_ _ | refine Bel.alloc ?_ _ | refine Bel.drewN ?_ _)))))) | (refine RegC.wpQuiet_split rfl rfl (fun hb => ?_) (fun hb => ?_) <;> simp only [hb])))); all_goals (refine wpQuiet_nil ?_; rintro _ ⟨nq, rfl⟩))
        go_wp2
        go_roundw
        case rel =>
          refine ⟨k + 1, by omega, by go_num, ?_, Bel.trans hB (by (try simp only [ext_ext]); repeat (first | exact Bel.refl _ | assumption | refine bel_and ?_ _ | refine bel_drews ?_ _ | refine Bel.ext ?_ _ | refine Bel.alloc ?_ _ | refine Bel.drewN ?_ _))⟩
          intro j hj
          rcases Nat.lt_or_ge j k with h | h
          · exact H1.out j h
          · obtain rfl : j = k := by omega
            exact HB.out
        case measure => (first | (simp [intOf]; done) | (simp [intOf]; omega))
      · have z1 : (u != z) = true := by simpa using huz
        have HB := Lib.hid (show r = false by rw [← HR.out]; unfold fineB; exact allB_no hlt (by rw [HV.out]; simpa using huz))
        clear huz HV
        go_wp2
        ((first | refine RegC.wp_region_ext1 (by kernel_rfl) (by kernel_rfl) ?_ | refine RegC.wp_region_ext0 (by kernel_rfl) (by kernel_rfl) ?_); (repeat (any_goals (first | go_big_quiet_step (first | (go_at_call 80; with_reducible first | exact Calls.ext_of1 (q4.out _ (Bel.trans hb (by (try simp only [ext_ext]); repeat (first | exact Bel.refl _ | assumption | refine bel_and ?_ _ | refine bel_drews ?_ _ | refine Bel.ext ?_ _ | refine Bel.alloc ?_ _ | refine Bel.drewN ?_ _)))) | exact Calls.ext_of (q4.out _ (Bel.trans hb (by (try simp only [ext_ext]); repeat (first | exact Bel.refl _ | assumption | refine bel_and ?_ _ | refine bel_drews ?_ _ | refine Bel.ext ?_ _ | refine Bel.alloc ?_ _ | refine Bel.drewN ?_ _)))) | exact Calls.ext_of1 (q5.out _ (Bel.trans hb (by (try simp only [ext_ext]); repeat (first | exact Bel.refl _ | assumption | refine bel_and ?_ _ | refine bel_drews ?_ _ | refine Bel.ext ?_ _ | refine Bel.alloc ?_ _ | refine Bel.drewN ?_ _)))) | exact Calls.ext_of (q5.out _ (Bel.trans hb (by (try simp only [ext_ext]); repeat (first | exact Bel.refl _ | assumption | refine bel_and ?_ _ | refine bel_drews ?_ _ | refine Bel.ext ?_ _ | refine Bel.alloc ?_ _ | refine Bel.drewN ?_ _))))) | (go_at_call 79; with_reducible first | exact Calls.ext_of1 (q6.out _ (Bel.trans hb (by (try simp only [ext_ext]); repeat (first | exact Bel.refl _ | assumption | refine bel_and ?_ _ | refine bel_drews ?_ _ | refine Bel.ext ?_ _ | refine Bel.alloc ?_ _ | refine Bel.drewN ?_ _)))) | exact Calls.ext_of (q6.out _ (Bel.trans hb (by (try simp only [ext_ext]); repeat (first | exact Bel.refl _ | assumption | refine bel_and ?_ _ | refine bel_drews ?_ _ | refine Bel.ext ?_ _ | refine Bel.alloc ?_ _ | refine Bel.drewN ?_ _)))))) | (refine RegC.wpQuiet_split rfl rfl (fun hb => ?_) (fun hb => ?_) <;> simp only [hb])))); all_goals (refine wpQuiet_nil ?_; rintro _ ⟨nq, rfl⟩))
        go_wp2
        (go_ret2; exact ⟨by have := HB.out; subst this; rfl, ext_of (Bel.trans hb (by (try simp only [ext_ext]); repeat (first | exact Bel.refl _ | assumption | refine bel_and ?_ _ | refine bel_drews ?_ _ | refine Bel.ext ?_ _ | refine Bel.alloc ?_ _ | refine Bel.drewN ?_ _)))⟩)
    · obtain rfl : k = W.length := by omega
      have HB : Hid (r = true) := Lib.hid (by rw [← HR.out]; unfold fineB; exact allB_yes H1.out)
      go_wp2
      (go_ret2; exact ⟨by have := HB.out; subst this; rfl, ext_of (Bel.trans hb (by (try simp only [ext_ext]); repeat (first | exact Bel.refl _ | assumption | refine bel_and ?_ _ | refine bel_drews ?_ _ | refine Bel.ext ?_ _ | refine Bel.alloc ?_ _ | refine Bel.drewN ?_ _)))⟩)
set_option maxRecDepth 10000 in
set_option maxHeartbeats 4000000 in
theorem rright_any (A B F : Option Addr) (c d cf : Nat) (P W : List Int) (l : List Pt) (n m : Int) (w : World) (hn : -9223372036854775808 ≤ n ∧ n ≤ 9223372036854775807) (hd : -9223372036854775808 ≤ m ∧ m ≤ 9223372036854775807) (hs : Sl w 1 A P.length c (vi P)) (ht : Sl w 1 B W.length d (vi W)) (hsf : Sl w 3 F l.length cf (vp l)) (hP : P.length ≤ 1000) (hW : W.length ≤ 1000) (hl : l.length ≤ 1000000) :
    Calls Try.prog 42 #[.agg #[.slice A P.length c, .slice B W.length d], .agg #[.slice F l.length cf], .agg #[.int .i64 n, .int .i64 m]] w fun e w' => e = .returned (.tuple #[.bool (brRight l n m P W).1, .int .i64 (brRight l n m P W).2]) ∧ ∃ x, w' = ext w x := by
  have q1 := Lib.hid (fun V hb => rcheck_any A B c d P W V (hs.bel (w' := V) hb) (ht.bel hb) hP hW)
  have q2 := Lib.hid (fun V hb => timed_any F cf l n m V hn hd (hsf.bel (w' := V) hb) hl)
  unfold brRight
  by_cases hc : brChk P W = 0
  case neg =>
    have h8 : brChk P W = 8 := by rcases brChk_cases P W with h1 | h1; exact absurd h1 hc; exact h1
    rw [h8] at q1
    rw [if_pos hc]
    clear hs ht hsf hP hW hc h8 hn hd
    go_enter Try.func42, Try.ntmps42
    go_wp2_with ((go_at_call 44; (with_reducible refine (q1.out _ (by (try simp only [ext_ext]); repeat (first | exact Bel.refl _ | assumption | refine bel_and ?_ _ | refine bel_drews ?_ _ | refine Bel.ext ?_ _ | refine Bel.alloc ?_ _ | refine Bel.drewN ?_ _))).mono ?_); rintro e _ ⟨rfl, nx, rfl⟩))
    go_ret2
    exact ⟨rfl, ext_of (by (try simp only [ext_ext]); repeat (first | exact Bel.refl _ | assumption | refine bel_and ?_ _ | refine bel_drews ?_ _ | refine Bel.ext ?_ _ | refine Bel.alloc ?_ _ | refine Bel.drewN ?_ _))⟩
  rw [hc] at q1
  rw [if_neg (by simpa using hc)]
  by_cases htm : timed l n m = 0
  case neg =>
    obtain ⟨v, hv⟩ : ∃ v, timed l n m = v := ⟨_, rfl⟩
    rw [hv] at q2 htm ⊢
    have z1 : (v != 0) = true := by simpa using htm
    rw [if_pos htm]
    clear hs ht hsf hP hW hc hn hd hv htm
    go_enter Try.func42, Try.ntmps42
    go_wp2_with (first | (go_at_call 44; (with_reducible refine (q1.out _ (by (try simp only [ext_ext]); repeat (first | exact Bel.refl _ | assumption | refine bel_and ?_ _ | refine bel_drews ?_ _ | refine Bel.ext ?_ _ | refine Bel.alloc ?_ _ | refine Bel.drewN ?_ _))).mono ?_); rintro e _ ⟨rfl, nx, rfl⟩) | (go_at_call 45; (with_reducible refine (q2.out _ (by (try simp only [ext_ext]); repeat (first | exact Bel.refl _ | assumption | refine bel_and ?_ _ | refine bel_drews ?_ _ | refine Bel.ext ?_ _ | refine Bel.alloc ?_ _ | refine Bel.drewN ?_ _))).mono ?_); rintro e _ ⟨rfl, nx, rfl⟩))
    go_ret2
    exact ⟨rfl, ext_of (by (try simp only [ext_ext]); repeat (first | exact Bel.refl _ | assumption | refine bel_and ?_ _ | refine bel_drews ?_ _ | refine Bel.ext ?_ _ | refine Bel.alloc ?_ _ | refine Bel.drewN ?_ _))⟩
  rw [htm] at q2
  rw [if_neg (by simpa using htm)]
  have hinc := (fieldChk_zero (timed_zero htm).1).2.2
  have q8 := Lib.hid (fun V hb => rknown_any F A cf c l P V (hsf.bel (w' := V) hb) (hs.bel hb) hl (by omega))
  cases hk : knownB l P with
  | false =>
    rw [hk] at q8
    rw [if_neg (by decide)]
    clear hs ht hsf hP hW hc hn hd htm hinc hk
    go_enter Try.func42, Try.ntmps42
    go_wp2_with (first | (go_at_call 44; (with_reducible refine (q1.out _ (by (try simp only [ext_ext]); repeat (first | exact Bel.refl _ | assumption | refine bel_and ?_ _ | refine bel_drews ?_ _ | refine Bel.ext ?_ _ | refine Bel.alloc ?_ _ | refine Bel.drewN ?_ _))).mono ?_); rintro e _ ⟨rfl, nx, rfl⟩) | (go_at_call 45; (with_reducible refine (q2.out _ (by (try simp only [ext_ext]); repeat (first | exact Bel.refl _ | assumption | refine bel_and ?_ _ | refine bel_drews ?_ _ | refine Bel.ext ?_ _ | refine Bel.alloc ?_ _ | refine Bel.drewN ?_ _))).mono ?_); rintro e _ ⟨rfl, nx, rfl⟩) | (go_at_call 59; (with_reducible refine (q8.out _ (by (try simp only [ext_ext]); repeat (first | exact Bel.refl _ | assumption | refine bel_and ?_ _ | refine bel_drews ?_ _ | refine Bel.ext ?_ _ | refine Bel.alloc ?_ _ | refine Bel.drewN ?_ _))).mono ?_); rintro e _ ⟨rfl, nx, rfl⟩))
    go_ret2
    exact ⟨rfl, ext_of (by (try simp only [ext_ext]); repeat (first | exact Bel.refl _ | assumption | refine bel_and ?_ _ | refine bel_drews ?_ _ | refine Bel.ext ?_ _ | refine Bel.alloc ?_ _ | refine Bel.drewN ?_ _))⟩
  | true =>
  rw [hk] at q8
  rw [if_pos rfl]
  have q9 := Lib.hid (fun V hb => fine_any A B F c d cf P W l n m V hn hd (hs.bel (w' := V) hb) (ht.bel hb) (hsf.bel hb) hP hW hl hc htm hk)
  generalize fineB l n m P W = r at q9 ⊢
  clear hn hd hc htm hk hs ht hsf hP hW hl hinc
  go_enter Try.func42, Try.ntmps42
  go_wp2_with (first | (go_at_call 44; (with_reducible refine (q1.out _ (by (try simp only [ext_ext]); repeat (first | exact Bel.refl _ | assumption | refine bel_and ?_ _ | refine bel_drews ?_ _ | refine Bel.ext ?_ _ | refine Bel.alloc ?_ _ | refine Bel.drewN ?_ _))).mono ?_); rintro e _ ⟨rfl, nx, rfl⟩) | (go_at_call 45; (with_reducible refine (q2.out _ (by (try simp only [ext_ext]); repeat (first | exact Bel.refl _ | assumption | refine bel_and ?_ _ | refine bel_drews ?_ _ | refine Bel.ext ?_ _ | refine Bel.alloc ?_ _ | refine Bel.drewN ?_ _))).mono ?_); rintro e _ ⟨rfl, nx, rfl⟩) | (go_at_call 59; (with_reducible refine (q8.out _ (by (try simp only [ext_ext]); repeat (first | exact Bel.refl _ | assumption | refine bel_and ?_ _ | refine bel_drews ?_ _ | refine Bel.ext ?_ _ | refine Bel.alloc ?_ _ | refine Bel.drewN ?_ _))).mono ?_); rintro e _ ⟨rfl, nx, rfl⟩) | (go_at_call 86; (with_reducible refine (q9.out _ (by (try simp only [ext_ext]); repeat (first | exact Bel.refl _ | assumption | refine bel_and ?_ _ | refine bel_drews ?_ _ | refine Bel.ext ?_ _ | refine Bel.alloc ?_ _ | refine Bel.drewN ?_ _))).mono ?_); rintro e _ ⟨rfl, nx, rfl⟩))
  go_ret2
  exact ⟨rfl, ext_of (by (try simp only [ext_ext]); repeat (first | exact Bel.refl _ | assumption | refine bel_and ?_ _ | refine bel_drews ?_ _ | refine Bel.ext ?_ _ | refine Bel.alloc ?_ _ | refine Bel.drewN ?_ _))⟩
end Go.Proofs.Ytkcpnclgcmnlcaa
