/- The chapter's examples (the law's 'alive'). -/
import Derived.Test.YtijinelgbiombaaDec34
import Derived.Test.YtijinelgbiombaaMem3
set_option linter.unusedSimpArgs false
set_option linter.unusedVariables false
namespace Go.Proofs.Ytijinelgbiombaa
open Go.RowKit Go.Pel
theorem rd_ex1 : rd [5, 6] = ([⟨5, 0, 0, 0, 0, 0, 0⟩, ⟨6, 0, 0, 0, 0, 0, 0⟩], 0) := by decide +kernel
theorem rd_ex2 : rd [5, 7] = ([], 12) := by decide +kernel
theorem wl_ex1 : wl [5, 7] = ([⟨5, 0, 0, 0, 0, 0, 0⟩, ⟨2, 0, 0, 0, 0, 0, 0⟩], 0) := by decide +kernel
/-- all that 'is' asks of an ask and its bytes -/
def IsOk (x : Pel.Ask) (l : List UInt8) : Prop := x.chk = 0 ∧ x.bytes = l ∧ decAsk l = x ∧ decLen l = l.length ∧ decErr l = 0
instance (x : Pel.Ask) (l : List UInt8) : Decidable (IsOk x l) := by unfold IsOk; infer_instance
theorem is_lit (x : Pel.Ask) (l : List UInt8) (W : World) (e : TypeId) (g : Nat) (hg : g = W.heap.size) (hl : l.length ≤ 1000000) (h : IsOk x l) :
    Calls Try.prog 24 #[.agg #[.int .u8 (x).k, .int .i64 (x).i, .int .i64 (x).a, .int .i64 (x).b, .int .i64 (x).j, .int .i64 (x).n, .int .i64 (x).d], .slice (some ⟨g, 0, none⟩) l.length l.length] (W.alloc (.cells (vb l).toArray e)) fun e' w' => e' = .returned (.bool true) ∧ ∃ x, w' = ext W x := by
  refine (is_yes g 0 l.length x l _ (sl_blit W l e g hg) hl (fits_of_chk h.1) h.1 h.2.1 h.2.2.1 h.2.2.2.1 h.2.2.2.2).mono ?_
  rintro e _ ⟨rfl, y, rfl⟩
  exact ⟨rfl, ext_of (((Bel.refl W).alloc _).ext y)⟩
theorem read_lit (l : List UInt8) (m : List Pel.Ask) (W : World) (e : TypeId) (g : Nat) (hg : g = W.heap.size) (hl : l.length ≤ 1000000) (h : rd l = (m, 0)) :
    Calls Try.prog 19 #[.slice (some ⟨g, 0, none⟩) l.length l.length] (W.alloc (.cells (vb l).toArray e)) fun e' w' => ∃ A c, e' = .returned (.tuple #[.slice A m.length c, .int .i64 0]) ∧ ∃ x, w' = ext W x ∧ Sl (ext W x) 7 A m.length c (va m) := by
  have hq := read_any (some ⟨g, 0, none⟩) l.length l _ (sl_blit W l e g hg) hl
  rw [h] at hq
  refine hq.mono ?_
  rintro e _ ⟨A, c, rfl, y, rfl, hown⟩
  obtain ⟨x, hx⟩ := ext_of (((Bel.refl W).alloc (.cells (vb l).toArray e)).ext y)
  exact ⟨A, c, rfl, x, hx, by rw [← hx]; exact hown.sl⟩
theorem none_lit (l : List UInt8) (W : World) (e : TypeId) (g : Nat) (hg : g = W.heap.size) (hl : l.length ≤ 1000000) (h : rd l = ([], 12)) :
    Calls Try.prog 25 #[.slice (some ⟨g, 0, none⟩) l.length l.length] (W.alloc (.cells (vb l).toArray e)) fun e' w' => e' = .returned (.bool true) ∧ ∃ x, w' = ext W x := by
  refine (none_yes (some ⟨g, 0, none⟩) l.length l _ (sl_blit W l e g hg) hl h).mono ?_
  rintro e _ ⟨rfl, y, rfl⟩
  exact ⟨rfl, ext_of (((Bel.refl W).alloc _).ext y)⟩
theorem wild_lit (l : List UInt8) (m : List Pel.Ask) (W : World) (e e2 : TypeId) (g g2 : Nat) (hg : g = W.heap.size) (hg2 : g2 = W.heap.size + 1) (hl : l.length ≤ 1000000) (hm : m.length ≤ 1000000) (h : wl l = (m, 0)) :
    Calls Try.prog 26 #[.slice (some ⟨g, 0, none⟩) l.length l.length, .slice (some ⟨g2, 0, none⟩) m.length m.length] ((W.alloc (.cells (vb l).toArray e)).alloc (.cells (va m).toArray e2)) fun e' w' => e' = .returned (.bool true) ∧ ∃ x, w' = ext W x := by
  refine (wildL_yes (some ⟨g, 0, none⟩) (some ⟨g2, 0, none⟩) l.length m.length l m _ ((sl_blit W l e g hg).bel ((Bel.refl _).alloc _)) (fun h => by cases h) hl (sl_lit _ (va m) e2 7 m.length g2 (by simp [hg2]) (va_length m)) hm h).mono ?_
  rintro e _ ⟨rfl, y, rfl⟩
  exact ⟨rfl, ext_of ((((Bel.refl W).alloc _).alloc _).ext y)⟩
theorem same_lit (A : Option Addr) (c : Nat) (m : List Pel.Ask) (W : World) (e2 : TypeId) (g2 : Nat) (hs : Sl W 7 A m.length c (va m)) (hg2 : g2 = W.heap.size) (hm : m.length ≤ 1000000) :
    Calls Try.prog 23 #[.slice A m.length c, .slice (some ⟨g2, 0, none⟩) m.length m.length] (W.alloc (.cells (va m).toArray e2)) fun e' w' => e' = .returned (.bool true) ∧ ∃ x, w' = ext W x := by
  refine (same_any A (some ⟨g2, 0, none⟩) c m.length m m _ (hs.bel ((Bel.refl _).alloc _)) (sl_lit W (va m) e2 7 m.length g2 hg2 (va_length m)) hm hm).mono ?_
  rintro e _ ⟨rfl, y, rfl⟩
  exact ⟨by simp, ext_of (((Bel.refl W).alloc _).ext y)⟩
set_option maxRecDepth 10000 in
set_option maxHeartbeats 2000000 in
theorem alive_any (w : World) : Calls Try.prog 16 #[] w fun e w' => e = .returned (.bool true) ∧ ∃ x, w' = ext w x := by
  go_enter Try.func16, Try.ntmps16
  go_wp2_with fail
  refine (read_lit [5, 6] [⟨5, 0, 0, 0, 0, 0, 0⟩, ⟨6, 0, 0, 0, 0, 0, 0⟩] _ _ _ (by simp [go_sem]) (by decide) rd_ex1).mono ?_
  rintro e _ ⟨A5, c5, rfl, x5, rfl, s5⟩
  go_wp2_with fail
  refine (is_lit ⟨1, 258, 0, -1, 0, 0, 0⟩ [1, 1, 2, 16, 0, 0, 15, 255, 255] _ _ _ (by simp [go_sem]) (by decide) (by decide +kernel)).mono ?_
  rintro e _ ⟨rfl, x6, rfl⟩
  go_wp2_with fail
  refine (is_lit ⟨4, 0, 0, 0, 0, 1, 2⟩ [4, 64, 0, 0, 1, 0, 2] _ _ _ (by simp [go_sem]) (by decide) (by decide +kernel)).mono ?_
  rintro e _ ⟨rfl, x7, rfl⟩
  go_wp2_with fail
  refine (same_lit _ _ [⟨5, 0, 0, 0, 0, 0, 0⟩, ⟨6, 0, 0, 0, 0, 0, 0⟩] _ _ _ (s5.bel (by (try simp only [ext_ext]); repeat (first | exact Bel.refl _ | assumption | refine bel_and ?_ _ | refine bel_drews ?_ _ | refine Bel.ext ?_ _ | refine Bel.alloc ?_ _ | refine Bel.drewN ?_ _))) (by simp [go_sem]) (by decide)).mono ?_
  rintro e _ ⟨rfl, x8, rfl⟩
  go_wp2_with fail
  refine (none_lit [5, 7] _ _ _ (by simp [go_sem]) (by decide) rd_ex2).mono ?_
  rintro e _ ⟨rfl, x9, rfl⟩
  go_wp2_with fail
  refine (wild_lit [5, 7] [⟨5, 0, 0, 0, 0, 0, 0⟩, ⟨2, 0, 0, 0, 0, 0, 0⟩] _ _ _ _ _ (by simp [go_sem]) (by simp [go_sem]) (by decide) (by decide) wl_ex1).mono ?_
  rintro e _ ⟨rfl, x10, rfl⟩
  go_wp2
  (go_ret; exact ⟨ret_bool (by rfl), ext_of (by (try simp only [ext_ext]); repeat (first | exact Bel.refl _ | assumption | refine bel_and ?_ _ | refine bel_drews ?_ _ | refine Bel.ext ?_ _ | refine Bel.alloc ?_ _ | refine Bel.drewN ?_ _))⟩)
end Go.Proofs.Ytijinelgbiombaa
