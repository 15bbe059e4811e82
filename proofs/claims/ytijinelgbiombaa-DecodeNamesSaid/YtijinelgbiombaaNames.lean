/- The limits of asks, numbers at their ends, bytes that are no asks, and errors: the statement DecodeNames. No condition. (Printed by gennames.py.) -/
import Derived.Test.YtijinelgbiombaaDec35
import Derived.Test.YtijinelgbiombaaDec18
import Derived.Test.YtijinelgbiombaaSpec36g
import Derived.Test.YtijinelgbiombaaArgs36
import Derived.Test.YtijinelgbiombaaMem3
set_option linter.unusedSimpArgs false
set_option linter.unusedVariables false
namespace Go.Proofs.Ytijinelgbiombaa
open Go.ChangeShapes Go.WideShapes Go.ChangeAt Go.RowKit Go.Pel
attribute [local go_sem ↓] equal_ask0
def bads : List Pel.Ask := [⟨0, 0, 0, 0, 0, 0, 0⟩, ⟨7, 0, 0, 0, 0, 0, 0⟩, ⟨1, -1, 0, 0, 0, 0, 0⟩, ⟨1, 0, 1048577, 0, 0, 0, 0⟩, ⟨3, 0, 0, -1048577, 0, 0, 0⟩, ⟨1, 0, 0, 0, 1, 0, 0⟩, ⟨2, 0, 0, 0, 65536, 0, 0⟩, ⟨2, 0, 0, 0, -1, 0, 0⟩, ⟨2, 1, 0, 0, 0, 0, 0⟩, ⟨4, 0, 0, 0, 0, 0, 0⟩, ⟨4, 0, 0, 0, 0, 1, 1025⟩, ⟨4, 0, 0, 0, 0, 2, 4⟩, ⟨4, 0, 0, 0, 0, 1073741825, 1⟩, ⟨5, 0, 0, 0, 0, 0, 1⟩, ⟨6, 0, 0, 0, 1, 0, 0⟩]
theorem bads_chk : ∀ x ∈ bads, x.chk = 8 := by decide +kernel
theorem bads_fit : ∀ x ∈ bads, x.Fits := by
  intro x hx
  simp only [bads, List.mem_cons, List.not_mem_nil, or_false] at hx
  rcases hx with rfl | rfl | rfl | rfl | rfl | rfl | rfl | rfl | rfl | rfl | rfl | rfl | rfl | rfl | rfl <;> constructor <;> decide
theorem sl_555 (W : World) (e : TypeId) (g : Nat) (hg : g = W.heap.size) : Sl (W.alloc (.cells #[.int .u8 5, .int .u8 5, .int .u8 5] e)) 1 (some ⟨g, 0, none⟩) 3 3 (vb [5, 5, 5]) := sl_blit W [5, 5, 5] e g hg
def lead : Pel.Ask := ⟨5, 0, 0, 0, 0, 0, 0⟩
theorem lead_chk : lead.chk = 0 := by decide +kernel
theorem cat_leads (n : Nat) : cat (List.replicate n lead) = List.replicate n 5 := by
  induction n with
  | zero => rfl
  | succ n ih => rw [List.replicate_succ, cat_cons, ih, List.replicate_succ]; rfl
theorem rd_many120 : rd (List.replicate 120 5) = (List.replicate 120 lead, 0) := by
  rw [← cat_leads]
  exact rd_cat (fun x hx => by rw [List.eq_of_mem_replicate hx]; exact lead_chk) (by simp) (by rw [cat_leads]; simp)
theorem rd_many121 : rd (List.replicate 120 5 ++ [5]) = ([], 12) := by decide +kernel
theorem wl_many123 : wl (List.replicate 120 5 ++ [5, 5, 5]) = (List.replicate 120 lead, 0) := by decide +kernel
theorem wr_121 : wr (List.replicate 121 Ask.zero) = ([], 4) := wr_many (by simp)
theorem rd_1101 : rd (List.replicate 1101 0) = ([], 4) := rd_many (by rw [List.length_replicate]; omega)
theorem wl_1101 : wl (List.replicate 1101 0) = ([], 4) := wl_many (by rw [List.length_replicate]; omega)
theorem made_asks (n : Nat) : (madeCells (Value.agg #[.int .u8 0, .int .i64 0, .int .i64 0, .int .i64 0, .int .i64 0, .int .i64 0, .int .i64 0]).cells (n * 7)).toList = va (List.replicate n Ask.zero) := by
  have h := made_mul (Value.agg #[.int .u8 0, .int .i64 0, .int .i64 0, .int .i64 0, .int .i64 0, .int .i64 0, .int .i64 0]).cells n (by decide)
  refine h.trans ?_
  unfold va
  induction n with
  | zero => rfl
  | succ n ih => rw [List.replicate_succ, List.flatten_cons, ih (made_mul _ n (by decide)), List.replicate_succ, List.flatMap_cons]; rfl
theorem zero_fits : Ask.zero.Fits := by constructor <;> decide
theorem lead_fits : lead.Fits := fits_of_chk lead_chk
/-- calls with what they give -/
theorem encNo (x : Pel.Ask) (hf : x.Fits) (h : x.chk = 8) (W : World) :
    Calls Try.prog 10 #[.agg #[.int .u8 (x).k, .int .i64 (x).i, .int .i64 (x).a, .int .i64 (x).b, .int .i64 (x).j, .int .i64 (x).n, .int .i64 (x).d]] W fun e w' => ∃ A c, e = .returned (.tuple #[.slice A 0 c, .int .i64 8]) ∧ ∃ y, w' = ext W y := by
  obtain ⟨⟨u1, u2⟩, ⟨u3, u4⟩, ⟨u5, u6⟩, ⟨u7, u8⟩, ⟨u9, u10⟩, ⟨u11, u12⟩, ⟨u13, u14⟩⟩ := hf
  have e1 : encBytes x.k x.i x.a x.b x.j x.n x.d = [] := encBytes_no h
  have e2 : askChk x.k x.i x.a x.b x.j x.n x.d = 8 := h
  have hq := encode_any x.k x.i x.a x.b x.j x.n x.d W (by omega) (by omega) (by omega) (by omega) (by omega) (by omega)
  rw [e1, e2] at hq
  refine hq.mono ?_
  rintro e _ ⟨A, c, rfl, y, rfl, _⟩
  exact ⟨A, c, rfl, y, rfl⟩
theorem chkNo (x : Pel.Ask) (hf : x.Fits) (h : x.chk = 8) (W : World) : Calls Try.prog 14 #[.agg #[.int .u8 (x).k, .int .i64 (x).i, .int .i64 (x).a, .int .i64 (x).b, .int .i64 (x).j, .int .i64 (x).n, .int .i64 (x).d]] W fun e w' => e = .returned (.int .i64 8) ∧ ∃ y, w' = ext W y := by
  have := decCheck_any x.k x.i x.a x.b x.j x.n x.d W hf.n hf.d
  rwa [show askChk x.k x.i x.a x.b x.j x.n x.d = 8 from h] at this
theorem wrE (m : List Pel.Ask) (v : Int) (hin : ∀ x ∈ m, x.Fits) (h : wr m = ([], v)) (A : Option Addr) (c : Nat) (W : World) (hs : Sl W 7 A m.length c (va m)) :
    Calls Try.prog 17 #[.slice A m.length c] W fun e w' => ∃ A' c', e = .returned (.tuple #[.slice A' 0 c', .int .i64 v]) ∧ ∃ y, w' = ext W y := by
  have hq := write_any A c m W hs hin
  rw [h] at hq
  refine hq.mono ?_
  rintro e _ ⟨A', c', rfl, y, rfl, _⟩
  exact ⟨A', c', rfl, y, rfl⟩
theorem wrLit (m : List Pel.Ask) (v : Int) (hin : ∀ x ∈ m, x.Fits) (h : wr m = ([], v)) (W : World) (e : TypeId) (g : Nat) (hg : g = W.heap.size) :
    Calls Try.prog 17 #[.slice (some ⟨g, 0, none⟩) m.length m.length] (W.alloc (.cells (va m).toArray e)) fun e w' => ∃ A' c', e = .returned (.tuple #[.slice A' 0 c', .int .i64 v]) ∧ ∃ y, w' = ext W y := by
  refine (wrE m v hin h _ _ _ (sl_lit W (va m) e 7 m.length g hg (va_length m))).mono ?_
  rintro e _ ⟨A, c, rfl, y, rfl⟩
  exact ⟨A, c, rfl, ext_of (((Bel.refl W).alloc _).ext y)⟩
theorem rdE (l : List UInt8) (m : List Pel.Ask) (v : Int) (hl : l.length ≤ 1000000) (h : rd l = (m, v)) (A : Option Addr) (c k : Nat) (W : World) (hk : k = l.length) (hs : Sl W 1 A k c (vb l)) :
    Calls Try.prog 19 #[.slice A k c] W fun e w' => ∃ A' c', e = .returned (.tuple #[.slice A' m.length c', .int .i64 v]) ∧ ∃ y, w' = ext W y := by
  subst hk
  have hq := read_any A c l W hs hl
  rw [h] at hq
  refine hq.mono ?_
  rintro e _ ⟨A', c', rfl, y, rfl, _⟩
  exact ⟨A', c', rfl, y, rfl⟩
theorem wlE (l : List UInt8) (m : List Pel.Ask) (v : Int) (hl : l.length ≤ 1000000) (h : wl l = (m, v)) (A : Option Addr) (c k : Nat) (W : World) (hk : k = l.length) (hs : Sl W 1 A k c (vb l)) (hn : A = none → c = 0) :
    Calls Try.prog 21 #[.slice A k c] W fun e w' => ∃ A' c', e = .returned (.tuple #[.slice A' m.length c', .int .i64 v]) ∧ ∃ y, w' = ext W y := by
  subst hk
  have hq := wild_any A c l W hs hn hl
  rw [h] at hq
  refine hq.mono ?_
  rintro e _ ⟨A', c', rfl, y, rfl, _⟩
  exact ⟨A', c', rfl, y, rfl⟩
theorem decE (l : List UInt8) (x : Pel.Ask) (n : Nat) (v : Int) (hl : l.length ≤ 1000000) (h : decAsk l = x ∧ decLen l = n ∧ decErr l = v) (A : Option Addr) (c k : Nat) (W : World) (hk : k = l.length) (hs : Sl W 1 A k c (vb l)) :
    Calls Try.prog 12 #[.slice A k c] W fun e w' => e = .returned (.tuple #[.agg #[.int .u8 (x).k, .int .i64 (x).i, .int .i64 (x).a, .int .i64 (x).b, .int .i64 (x).j, .int .i64 (x).n, .int .i64 (x).d], .int .i64 n, .int .i64 v]) ∧ ∃ y, w' = ext W y := by
  obtain ⟨rfl, rfl, rfl⟩ := h
  subst hk
  exact decode_any A c l W hs hl
theorem decLit (l : List UInt8) (x : Pel.Ask) (n : Nat) (v : Int) (hl : l.length ≤ 1000000) (h : decAsk l = x ∧ decLen l = n ∧ decErr l = v) (W : World) (e : TypeId) (g : Nat) (hg : g = W.heap.size) :
    Calls Try.prog 12 #[.slice (some ⟨g, 0, none⟩) l.length l.length] (W.alloc (.cells (vb l).toArray e)) fun e w' => e = .returned (.tuple #[.agg #[.int .u8 (x).k, .int .i64 (x).i, .int .i64 (x).a, .int .i64 (x).b, .int .i64 (x).j, .int .i64 (x).n, .int .i64 (x).d], .int .i64 n, .int .i64 v]) ∧ ∃ y, w' = ext W y := by
  refine (decE l x n v hl h _ _ _ _ rfl (sl_blit W l e g hg)).mono ?_
  rintro e _ ⟨rfl, y, rfl⟩
  exact ⟨rfl, ext_of (((Bel.refl W).alloc _).ext y)⟩
theorem fill_step (n k : Nat) (h : k < n) : (vb (List.replicate k 5 ++ List.replicate (n - k) 0)).set k (.int .u8 5) = vb (List.replicate (k + 1) 5 ++ List.replicate (n - (k + 1)) 0) := by
  have e : n - k = (n - (k + 1)) + 1 := by omega
  have e2 : (Value.int .u8 5) = (fun x : UInt8 => Value.int .u8 (x.toNat : Int)) 5 := rfl
  unfold vb
  rw [e2, ← List.map_set]
  congr 1
  rw [e, List.replicate_succ, List.set_append_right _ _ (by simp), List.length_replicate, Nat.sub_self, List.set_cons_zero, List.replicate_succ', List.append_assoc]
  rfl
set_option maxRecDepth 100000 in
set_option maxHeartbeats 16000000 in
theorem names_walk (w : World) : Calls Try.prog 6 #[] w fun e w' => e = .returned (.bool true) ∧ ∃ x, w' = ext w x := by
  have hb : Bel w w := Bel.refl w
  go_enter Try.func6, Try.ntmps6
  go_wp2_with fail
  refine (is_lit ⟨3, 65535, 1048576, -1048576, 0, 0, 0⟩ [3, 255, 255, 32, 0, 0, 0, 0, 0] _ _ _ (by simp [go_sem]) (by decide) (by decide +kernel)).mono ?_
  rintro e w1 ⟨rfl, hq⟩
  have hx : Bel w w1 := Bel.trans (show Bel w _ from (by (try simp only [ext_ext]); repeat (first | exact Bel.refl _ | assumption | refine bel_and ?_ _ | refine bel_drews ?_ _ | refine Bel.ext ?_ _ | refine Bel.alloc ?_ _ | refine Bel.drewN ?_ _))) (bel_of hq)
  clear hq
  replace hb := hb.trans hx
  clear hx
  go_wp2_with fail
  refine (is_lit ⟨2, 0, 0, 0, 65535, 0, 0⟩ [2, 255, 255] _ _ _ (by simp [go_sem]) (by decide) (by decide +kernel)).mono ?_
  rintro e w2 ⟨rfl, hq⟩
  have hx : Bel w1 w2 := Bel.trans (show Bel w1 _ from (by (try simp only [ext_ext]); repeat (first | exact Bel.refl _ | assumption | refine bel_and ?_ _ | refine bel_drews ?_ _ | refine Bel.ext ?_ _ | refine Bel.alloc ?_ _ | refine Bel.drewN ?_ _))) (bel_of hq)
  clear hq
  replace hb := hb.trans hx
  clear hx
  go_wp2_with fail
  refine (is_lit ⟨4, 0, 0, 0, 0, -1073741823, 1024⟩ [4, 0, 0, 0, 1, 4, 0] _ _ _ (by simp [go_sem]) (by decide) (by decide +kernel)).mono ?_
  rintro e w3 ⟨rfl, hq⟩
  have hx : Bel w2 w3 := Bel.trans (show Bel w2 _ from (by (try simp only [ext_ext]); repeat (first | exact Bel.refl _ | assumption | refine bel_and ?_ _ | refine bel_drews ?_ _ | refine Bel.ext ?_ _ | refine Bel.alloc ?_ _ | refine Bel.drewN ?_ _))) (bel_of hq)
  clear hq
  replace hb := hb.trans hx
  clear hx
  go_wp2_with fail
  refine (is_lit ⟨4, 0, 0, 0, 0, 1073741824, 1⟩ [4, 128, 0, 0, 0, 0, 1] _ _ _ (by simp [go_sem]) (by decide) (by decide +kernel)).mono ?_
  rintro e w4 ⟨rfl, hq⟩
  have hx : Bel w3 w4 := Bel.trans (show Bel w3 _ from (by (try simp only [ext_ext]); repeat (first | exact Bel.refl _ | assumption | refine bel_and ?_ _ | refine bel_drews ?_ _ | refine Bel.ext ?_ _ | refine Bel.alloc ?_ _ | refine Bel.drewN ?_ _))) (bel_of hq)
  clear hq
  replace hb := hb.trans hx
  clear hx
  go_wp2_with fail
  refine (is_lit ⟨4, 0, 0, 0, 0, 0, 1⟩ [4, 64, 0, 0, 0, 0, 1] _ _ _ (by simp [go_sem]) (by decide) (by decide +kernel)).mono ?_
  rintro e w5 ⟨rfl, hq⟩
  have hx : Bel w4 w5 := Bel.trans (show Bel w4 _ from (by (try simp only [ext_ext]); repeat (first | exact Bel.refl _ | assumption | refine bel_and ?_ _ | refine bel_drews ?_ _ | refine Bel.ext ?_ _ | refine Bel.alloc ?_ _ | refine Bel.drewN ?_ _))) (bel_of hq)
  clear hq
  replace hb := hb.trans hx
  clear hx
  go_wp2_with fail
  refine (none_lit [0] _ _ _ (by simp [go_sem]) (by decide) (by decide +kernel)).mono ?_
  rintro e w6 ⟨rfl, hq⟩
  have hx : Bel w5 w6 := Bel.trans (show Bel w5 _ from (by (try simp only [ext_ext]); repeat (first | exact Bel.refl _ | assumption | refine bel_and ?_ _ | refine bel_drews ?_ _ | refine Bel.ext ?_ _ | refine Bel.alloc ?_ _ | refine Bel.drewN ?_ _))) (bel_of hq)
  clear hq
  replace hb := hb.trans hx
  clear hx
  go_wp2_with fail
  refine (none_lit [7] _ _ _ (by simp [go_sem]) (by decide) (by decide +kernel)).mono ?_
  rintro e w7 ⟨rfl, hq⟩
  have hx : Bel w6 w7 := Bel.trans (show Bel w6 _ from (by (try simp only [ext_ext]); repeat (first | exact Bel.refl _ | assumption | refine bel_and ?_ _ | refine bel_drews ?_ _ | refine Bel.ext ?_ _ | refine Bel.alloc ?_ _ | refine Bel.drewN ?_ _))) (bel_of hq)
  clear hq
  replace hb := hb.trans hx
  clear hx
  go_wp2_with fail
  refine (none_lit [255] _ _ _ (by simp [go_sem]) (by decide) (by decide +kernel)).mono ?_
  rintro e w8 ⟨rfl, hq⟩
  have hx : Bel w7 w8 := Bel.trans (show Bel w7 _ from (by (try simp only [ext_ext]); repeat (first | exact Bel.refl _ | assumption | refine bel_and ?_ _ | refine bel_drews ?_ _ | refine Bel.ext ?_ _ | refine Bel.alloc ?_ _ | refine Bel.drewN ?_ _))) (bel_of hq)
  clear hq
  replace hb := hb.trans hx
  clear hx
  go_wp2_with fail
  refine (none_lit [1] _ _ _ (by simp [go_sem]) (by decide) (by decide +kernel)).mono ?_
  rintro e w9 ⟨rfl, hq⟩
  have hx : Bel w8 w9 := Bel.trans (show Bel w8 _ from (by (try simp only [ext_ext]); repeat (first | exact Bel.refl _ | assumption | refine bel_and ?_ _ | refine bel_drews ?_ _ | refine Bel.ext ?_ _ | refine Bel.alloc ?_ _ | refine Bel.drewN ?_ _))) (bel_of hq)
  clear hq
  replace hb := hb.trans hx
  clear hx
  go_wp2_with fail
  refine (none_lit [2, 1] _ _ _ (by simp [go_sem]) (by decide) (by decide +kernel)).mono ?_
  rintro e w10 ⟨rfl, hq⟩
  have hx : Bel w9 w10 := Bel.trans (show Bel w9 _ from (by (try simp only [ext_ext]); repeat (first | exact Bel.refl _ | assumption | refine bel_and ?_ _ | refine bel_drews ?_ _ | refine Bel.ext ?_ _ | refine Bel.alloc ?_ _ | refine Bel.drewN ?_ _))) (bel_of hq)
  clear hq
  replace hb := hb.trans hx
  clear hx
  go_wp2_with fail
  refine (none_lit [1, 0, 0, 32, 0, 1, 0, 0, 0] _ _ _ (by simp [go_sem]) (by decide) (by decide +kernel)).mono ?_
  rintro e w11 ⟨rfl, hq⟩
  have hx : Bel w10 w11 := Bel.trans (show Bel w10 _ from (by (try simp only [ext_ext]); repeat (first | exact Bel.refl _ | assumption | refine bel_and ?_ _ | refine bel_drews ?_ _ | refine Bel.ext ?_ _ | refine Bel.alloc ?_ _ | refine Bel.drewN ?_ _))) (bel_of hq)
  clear hq
  replace hb := hb.trans hx
  clear hx
  go_wp2_with fail
  refine (none_lit [1, 0, 0, 0, 0, 0, 32, 0, 1] _ _ _ (by simp [go_sem]) (by decide) (by decide +kernel)).mono ?_
  rintro e w12 ⟨rfl, hq⟩
  have hx : Bel w11 w12 := Bel.trans (show Bel w11 _ from (by (try simp only [ext_ext]); repeat (first | exact Bel.refl _ | assumption | refine bel_and ?_ _ | refine bel_drews ?_ _ | refine Bel.ext ?_ _ | refine Bel.alloc ?_ _ | refine Bel.drewN ?_ _))) (bel_of hq)
  clear hq
  replace hb := hb.trans hx
  clear hx
  go_wp2_with fail
  refine (none_lit [4, 128, 0, 0, 1, 0, 1] _ _ _ (by simp [go_sem]) (by decide) (by decide +kernel)).mono ?_
  rintro e w13 ⟨rfl, hq⟩
  have hx : Bel w12 w13 := Bel.trans (show Bel w12 _ from (by (try simp only [ext_ext]); repeat (first | exact Bel.refl _ | assumption | refine bel_and ?_ _ | refine bel_drews ?_ _ | refine Bel.ext ?_ _ | refine Bel.alloc ?_ _ | refine Bel.drewN ?_ _))) (bel_of hq)
  clear hq
  replace hb := hb.trans hx
  clear hx
  go_wp2_with fail
  refine (none_lit [4, 64, 0, 0, 1, 0, 0] _ _ _ (by simp [go_sem]) (by decide) (by decide +kernel)).mono ?_
  rintro e w14 ⟨rfl, hq⟩
  have hx : Bel w13 w14 := Bel.trans (show Bel w13 _ from (by (try simp only [ext_ext]); repeat (first | exact Bel.refl _ | assumption | refine bel_and ?_ _ | refine bel_drews ?_ _ | refine Bel.ext ?_ _ | refine Bel.alloc ?_ _ | refine Bel.drewN ?_ _))) (bel_of hq)
  clear hq
  replace hb := hb.trans hx
  clear hx
  go_wp2_with fail
  refine (none_lit [4, 64, 0, 0, 1, 4, 1] _ _ _ (by simp [go_sem]) (by decide) (by decide +kernel)).mono ?_
  rintro e w15 ⟨rfl, hq⟩
  have hx : Bel w14 w15 := Bel.trans (show Bel w14 _ from (by (try simp only [ext_ext]); repeat (first | exact Bel.refl _ | assumption | refine bel_and ?_ _ | refine bel_drews ?_ _ | refine Bel.ext ?_ _ | refine Bel.alloc ?_ _ | refine Bel.drewN ?_ _))) (bel_of hq)
  clear hq
  replace hb := hb.trans hx
  clear hx
  go_wp2_with fail
  refine (none_lit [4, 64, 0, 0, 2, 0, 2] _ _ _ (by simp [go_sem]) (by decide) (by decide +kernel)).mono ?_
  rintro e w16 ⟨rfl, hq⟩
  have hx : Bel w15 w16 := Bel.trans (show Bel w15 _ from (by (try simp only [ext_ext]); repeat (first | exact Bel.refl _ | assumption | refine bel_and ?_ _ | refine bel_drews ?_ _ | refine Bel.ext ?_ _ | refine Bel.alloc ?_ _ | refine Bel.drewN ?_ _))) (bel_of hq)
  clear hq
  replace hb := hb.trans hx
  clear hx
  go_wp2_with fail
  refine (none_lit [4, 64, 0, 0, 0, 0, 2] _ _ _ (by simp [go_sem]) (by decide) (by decide +kernel)).mono ?_
  rintro e w17 ⟨rfl, hq⟩
  have hx : Bel w16 w17 := Bel.trans (show Bel w16 _ from (by (try simp only [ext_ext]); repeat (first | exact Bel.refl _ | assumption | refine bel_and ?_ _ | refine bel_drews ?_ _ | refine Bel.ext ?_ _ | refine Bel.alloc ?_ _ | refine Bel.drewN ?_ _))) (bel_of hq)
  clear hq
  replace hb := hb.trans hx
  clear hx
  go_wp2_with fail
  refine (none_lit [5, 2, 0] _ _ _ (by simp [go_sem]) (by decide) (by decide +kernel)).mono ?_
  rintro e w18 ⟨rfl, hq⟩
  have hx : Bel w17 w18 := Bel.trans (show Bel w17 _ from (by (try simp only [ext_ext]); repeat (first | exact Bel.refl _ | assumption | refine bel_and ?_ _ | refine bel_drews ?_ _ | refine Bel.ext ?_ _ | refine Bel.alloc ?_ _ | refine Bel.drewN ?_ _))) (bel_of hq)
  clear hq
  replace hb := hb.trans hx
  clear hx
  go_wp2_with fail
  refine (none_lit [1, 0, 0, 16, 0, 0, 16, 0] _ _ _ (by simp [go_sem]) (by decide) (by decide +kernel)).mono ?_
  rintro e w19 ⟨rfl, hq⟩
  have hx : Bel w18 w19 := Bel.trans (show Bel w18 _ from (by (try simp only [ext_ext]); repeat (first | exact Bel.refl _ | assumption | refine bel_and ?_ _ | refine bel_drews ?_ _ | refine Bel.ext ?_ _ | refine Bel.alloc ?_ _ | refine Bel.drewN ?_ _))) (bel_of hq)
  clear hq
  replace hb := hb.trans hx
  clear hx
  go_wp2
  obtain ⟨g0, hg0⟩ : ∃ g, w19.heap.size = g := ⟨_, rfl⟩
  have sB : Sl (w19.alloc (.cells (va bads).toArray 27)) 7 (some ⟨g0, 0, none⟩) 15 15 (va bads) := sl_lit w19 (va bads) 27 7 15 g0 hg0.symm (va_length bads)
  have hx : Bel w19 (w19.alloc (.cells (va bads).toArray 27)) := (Bel.refl _).alloc _
  have sB : Sl (w19.alloc (.cells #[.int .u8 0, .int .i64 0, .int .i64 0, .int .i64 0, .int .i64 0, .int .i64 0, .int .i64 0, .int .u8 7, .int .i64 0, .int .i64 0, .int .i64 0, .int .i64 0, .int .i64 0, .int .i64 0, .int .u8 1, .int .i64 (-1), .int .i64 0, .int .i64 0, .int .i64 0, .int .i64 0, .int .i64 0, .int .u8 1, .int .i64 0, .int .i64 1048577, .int .i64 0, .int .i64 0, .int .i64 0, .int .i64 0, .int .u8 3, .int .i64 0, .int .i64 0, .int .i64 (-1048577), .int .i64 0, .int .i64 0, .int .i64 0, .int .u8 1, .int .i64 0, .int .i64 0, .int .i64 0, .int .i64 1, .int .i64 0, .int .i64 0, .int .u8 2, .int .i64 0, .int .i64 0, .int .i64 0, .int .i64 65536, .int .i64 0, .int .i64 0, .int .u8 2, .int .i64 0, .int .i64 0, .int .i64 0, .int .i64 (-1), .int .i64 0, .int .i64 0, .int .u8 2, .int .i64 1, .int .i64 0, .int .i64 0, .int .i64 0, .int .i64 0, .int .i64 0, .int .u8 4, .int .i64 0, .int .i64 0, .int .i64 0, .int .i64 0, .int .i64 0, .int .i64 0, .int .u8 4, .int .i64 0, .int .i64 0, .int .i64 0, .int .i64 0, .int .i64 1, .int .i64 1025, .int .u8 4, .int .i64 0, .int .i64 0, .int .i64 0, .int .i64 0, .int .i64 2, .int .i64 4, .int .u8 4, .int .i64 0, .int .i64 0, .int .i64 0, .int .i64 0, .int .i64 1073741825, .int .i64 1, .int .u8 5, .int .i64 0, .int .i64 0, .int .i64 0, .int .i64 0, .int .i64 0, .int .i64 1, .int .u8 6, .int .i64 0, .int .i64 0, .int .i64 0, .int .i64 1, .int .i64 0, .int .i64 0] 27)) 7 (some ⟨g0, 0, none⟩) 15 15 (va bads) := sB
  try simp only [hg0]
  obtain ⟨w20, hW⟩ : ∃ W, w19.alloc (.cells (va bads).toArray 27) = W := ⟨_, rfl⟩
  have hW2 := hW
  change w19.alloc (.cells #[.int .u8 0, .int .i64 0, .int .i64 0, .int .i64 0, .int .i64 0, .int .i64 0, .int .i64 0, .int .u8 7, .int .i64 0, .int .i64 0, .int .i64 0, .int .i64 0, .int .i64 0, .int .i64 0, .int .u8 1, .int .i64 (-1), .int .i64 0, .int .i64 0, .int .i64 0, .int .i64 0, .int .i64 0, .int .u8 1, .int .i64 0, .int .i64 1048577, .int .i64 0, .int .i64 0, .int .i64 0, .int .i64 0, .int .u8 3, .int .i64 0, .int .i64 0, .int .i64 (-1048577), .int .i64 0, .int .i64 0, .int .i64 0, .int .u8 1, .int .i64 0, .int .i64 0, .int .i64 0, .int .i64 1, .int .i64 0, .int .i64 0, .int .u8 2, .int .i64 0, .int .i64 0, .int .i64 0, .int .i64 65536, .int .i64 0, .int .i64 0, .int .u8 2, .int .i64 0, .int .i64 0, .int .i64 0, .int .i64 (-1), .int .i64 0, .int .i64 0, .int .u8 2, .int .i64 1, .int .i64 0, .int .i64 0, .int .i64 0, .int .i64 0, .int .i64 0, .int .u8 4, .int .i64 0, .int .i64 0, .int .i64 0, .int .i64 0, .int .i64 0, .int .i64 0, .int .u8 4, .int .i64 0, .int .i64 0, .int .i64 0, .int .i64 0, .int .i64 1, .int .i64 1025, .int .u8 4, .int .i64 0, .int .i64 0, .int .i64 0, .int .i64 0, .int .i64 2, .int .i64 4, .int .u8 4, .int .i64 0, .int .i64 0, .int .i64 0, .int .i64 0, .int .i64 1073741825, .int .i64 1, .int .u8 5, .int .i64 0, .int .i64 0, .int .i64 0, .int .i64 0, .int .i64 0, .int .i64 1, .int .u8 6, .int .i64 0, .int .i64 0, .int .i64 0, .int .i64 1, .int .i64 0, .int .i64 0] 27) = w20 at hW2
  rw [hW2] at sB ⊢
  rw [hW] at hx
  replace hb := hb.trans hx
  clear hW hW2 hx hg0
  obtain ⟨wo, hwo⟩ : ∃ wo : World, wo = w20 := ⟨_, rfl⟩
  go_loopw [4] (fun i wr => ∃ k : Nat, k ≤ 15 ∧ i = .int .i64 k ∧ Bel wo wr) (fun i _ => 15 - (intOf i).toNat)
  case atStart => exact ⟨0, Nat.zero_le _, rfl, by rw [hwo]; exact Bel.refl _⟩
  case round =>
    rw [← hwo] at hb sB
    clear hwo
    obtain ⟨k, hk, rfl, hr⟩ := hrel
    replace hb := hb.trans hr
    by_cases hlt : k < 15
    · obtain ⟨x, hx⟩ : ∃ x, bads[k]? = some x := ⟨_, List.getElem?_eq_getElem hlt⟩
      have hm := List.mem_of_getElem? hx
      have h8 := bads_chk x hm
      have hf := bads_fit x hm
      have s0 := sB.bel hr
      obtain ⟨r0, r1, r2, r3, r4, r5, r6⟩ := ask_at s0 hx
      simp only [Nat.zero_add] at r0 r1 r2 r3 r4 r5 r6
      have hlt0 : g0 < wr.heap.size := by obtain ⟨b', o', hA, hb'⟩ := s0.at_ (by omega); injection hA with hA; injection hA with hA; omega
      have hlti : (k : Int) < 15 := by omega
      have e1 := Lib.hid (encNo x hf h8)
      have e2 := Lib.hid (chkNo x hf h8)
      have hw2 : Pel.wr [lead, x] = ([], 8) := by rw [wr_go (by simp), wrGo_ok lead_chk, wrGo_bad h8]
      have e3 := Lib.hid (wrLit [lead, x] 8 (by intro y hy; simp only [List.mem_cons, List.not_mem_nil, or_false] at hy; rcases hy with rfl | rfl; exact lead_fits; exact hf) hw2)
      clear h8 hf hx hm hw2
      go_wp2_with fail
      refine (e1.out _).mono ?_
      rintro e w1x ⟨A5, c5, rfl, x5, rfl⟩
      go_wp2_with fail
      refine (e3.out _ _ _ (by simp [go_sem])).mono ?_
      rintro e w1x ⟨A6, c6, rfl, x6, rfl⟩
      go_wp2_with fail
      refine (e2.out _).mono ?_
      rintro e w1x ⟨rfl, x7, rfl⟩
      go_wp2
      go_roundw
      case rel => exact ⟨k + 1, by omega, by go_num, hr.trans (by (try simp only [ext_ext]); repeat (first | exact Bel.refl _ | assumption | refine bel_and ?_ _ | refine bel_drews ?_ _ | refine Bel.ext ?_ _ | refine Bel.alloc ?_ _ | refine Bel.drewN ?_ _))⟩
      case measure => (first | (simp [intOf]; done) | (simp [intOf]; omega))
    · clear sB
      obtain ⟨w100, rfl⟩ : ∃ w100 : World, w100 = wr := ⟨_, rfl⟩
      obtain rfl : k = 15 := by omega
      clear hr hk hlt
      go_wp2_with (refine make_ext slt_bytes (Bel.refl w100) (n := 120) (by omega) rfl _ _ rfl rfl rfl ?_; rintro g y hg hown)
      have h8 : (madeCells (Value.int .u8 0).cells (120 * 1)).toList = vb (List.replicate 120 0) := made_bytes 120
      rw [h8] at hown
      go_loopw [10] (fun i wq => ∃ (k : Nat) (y : Beyond), k ≤ 120 ∧ i = .int .i64 k ∧ wq = ext w100 y ∧ Own wq w100.heap.size 5 1 (some ⟨g, 0, none⟩) 120 120 (vb (List.replicate k 5 ++ List.replicate (120 - k) 0))) (fun i _ => 120 - (intOf i).toNat)
      case atStart => exact ⟨0, y, Nat.zero_le _, rfl, rfl, hown⟩
      case round =>
        clear hown h8
        obtain ⟨k, y1, hk, rfl, rfl, hown⟩ := hrel
        by_cases hlt : k < 120
        · have hcell := own_cell hown (j := k) (u := .int .u8 0) (by rw [vb_get, List.getElem?_append_right (by rw [List.length_replicate]; omega), List.getElem?_replicate, List.length_replicate, if_pos (by omega)]; rfl)
          have hfz := own_frozen hown k
          go_wp2
          obtain ⟨y2, hy2, hown2⟩ := own_store hown hg k (.int .u8 5)
          rw [hy2]
          go_roundw
          case rel => exact ⟨k + 1, y2, by omega, by go_num, rfl, by rw [← fill_step 120 k hlt]; exact hown2⟩
          case measure => (first | (simp [intOf]; done) | (simp [intOf]; omega))
        · obtain rfl : k = 120 := by omega
          have sM : Own (ext w100 y1) w100.heap.size 5 1 (some ⟨g, 0, none⟩) 120 120 (vb (List.replicate 120 5)) := by simpa using hown
          replace hb := hb.trans (bel_ext w100 y1)
          clear hown hlt hk
          obtain ⟨w101, hW⟩ : ∃ W, ext w100 y1 = W := ⟨_, rfl⟩
          rw [hW] at sM hb ⊢
          clear hW
          go_wp2_with (refine make_ext slt_asks (show Bel w101 _ from (by (try simp only [ext_ext]); repeat (first | exact Bel.refl _ | assumption | refine bel_and ?_ _ | refine bel_drews ?_ _ | refine Bel.ext ?_ _ | refine Bel.alloc ?_ _ | refine Bel.drewN ?_ _))) (n := 121) (by omega) rfl _ _ rfl rfl rfl ?_; rintro g101 y101 hg101 hown101)
          refine (wrE (List.replicate 121 Ask.zero) 4 (fun x hx => by rw [List.eq_of_mem_replicate hx]; exact zero_fits) wr_121 _ _ _ (by have h := hown101.sl; rw [made_asks 121] at h; exact h)).mono ?_
          rintro e w102 ⟨A101, c101, rfl, hq⟩
          have hx : Bel w101 w102 := Bel.trans (show Bel w101 _ from (by (try simp only [ext_ext]); repeat (first | exact Bel.refl _ | assumption | refine bel_and ?_ _ | refine bel_drews ?_ _ | refine Bel.ext ?_ _ | refine Bel.alloc ?_ _ | refine Bel.drewN ?_ _))) (bel_of hq)
          clear hq
          replace hb := hb.trans hx
          replace sM := sM.bel hx
          clear hx
          go_wp2_with fail
          refine (rdE (List.replicate 120 5) _ 0 (by simp) rd_many120 _ _ _ _ (by simp) sM.sl).mono ?_
          rintro e w103 ⟨A102, c102, rfl, hq⟩
          have hx : Bel w102 w103 := Bel.trans (show Bel w102 _ from (by (try simp only [ext_ext]); repeat (first | exact Bel.refl _ | assumption | refine bel_and ?_ _ | refine bel_drews ?_ _ | refine Bel.ext ?_ _ | refine Bel.alloc ?_ _ | refine Bel.drewN ?_ _))) (bel_of hq)
          clear hq
          replace hb := hb.trans hx
          replace sM := sM.bel hx
          clear hx
          go_wp2_with (first | (at_builtin; (try refine wpList_unguard rfl (by first | rfl | simp [yielded]) ?_); refine append_new slt_bytes (by (try simp only [ext_ext]); repeat (first | exact Bel.refl _ | assumption | refine bel_and ?_ _ | refine bel_drews ?_ _ | refine Bel.ext ?_ _ | refine Bel.alloc ?_ _ | refine Bel.drewN ?_ _)) (sM.sl) (by (try simp only [ext_ext]); repeat (first | exact Bel.refl _ | assumption | refine bel_and ?_ _ | refine bel_drews ?_ _ | refine Bel.ext ?_ _ | refine Bel.alloc ?_ _ | refine Bel.drewN ?_ _)) (vb_one _) ((fun h => by cases h)) (by omega) rfl _ _ rfl rfl rfl (by simp [go_sem]) ?_; rintro A1 c1 y1 hown1) | (at_builtin; (try refine wpList_unguard rfl (by first | rfl | simp [yielded]) ?_); refine append1_ext slt_bytes (by (try simp only [ext_ext]); repeat (first | exact Bel.refl _ | assumption | refine bel_and ?_ _ | refine bel_drews ?_ _ | refine Bel.ext ?_ _ | refine Bel.alloc ?_ _ | refine Bel.drewN ?_ _)) hown1 (by (try simp only [ext_ext]); repeat (first | exact Bel.refl _ | assumption | refine bel_and ?_ _ | refine bel_drews ?_ _ | refine Bel.ext ?_ _ | refine Bel.alloc ?_ _ | refine Bel.drewN ?_ _)) (by simp [Value.oneCell']) rfl (by omega) rfl _ _ rfl rfl rfl (by simp [go_sem]) ?_; rintro A2 c2 y2 hown2))
          refine (rdE (List.replicate 120 5 ++ [5]) _ 12 (by simp) rd_many121 _ _ _ _ (by simp) (by rw [vb_append]; exact hown2.sl.bel (by (try simp only [ext_ext]); repeat (first | exact Bel.refl _ | assumption | refine bel_and ?_ _ | refine bel_drews ?_ _ | refine Bel.ext ?_ _ | refine Bel.alloc ?_ _ | refine Bel.drewN ?_ _)))).mono ?_
          rintro e w104 ⟨A103, c103, rfl, hq⟩
          have hx : Bel w103 w104 := Bel.trans (show Bel w103 _ from (by (try simp only [ext_ext]); repeat (first | exact Bel.refl _ | assumption | refine bel_and ?_ _ | refine bel_drews ?_ _ | refine Bel.ext ?_ _ | refine Bel.alloc ?_ _ | refine Bel.drewN ?_ _))) (bel_of hq)
          clear hq
          replace hb := hb.trans hx
          replace sM := sM.bel hx
          clear hx
          go_wp2_with (refine make_ext slt_bytes (show Bel w104 _ from (by (try simp only [ext_ext]); repeat (first | exact Bel.refl _ | assumption | refine bel_and ?_ _ | refine bel_drews ?_ _ | refine Bel.ext ?_ _ | refine Bel.alloc ?_ _ | refine Bel.drewN ?_ _))) (n := 1101) (by omega) rfl _ _ rfl rfl rfl ?_; rintro g104 y104 hg104 hown104)
          refine (rdE (List.replicate 1101 0) _ 4 (by simp) rd_1101 _ _ _ _ (by simp) (by have h := hown104.sl; rw [made_bytes 1101] at h; exact h)).mono ?_
          rintro e w105 ⟨A104, c104, rfl, hq⟩
          have hx : Bel w104 w105 := Bel.trans (show Bel w104 _ from (by (try simp only [ext_ext]); repeat (first | exact Bel.refl _ | assumption | refine bel_and ?_ _ | refine bel_drews ?_ _ | refine Bel.ext ?_ _ | refine Bel.alloc ?_ _ | refine Bel.drewN ?_ _))) (bel_of hq)
          clear hq
          replace hb := hb.trans hx
          replace sM := sM.bel hx
          clear hx
          go_wp2_with (refine make_ext slt_bytes (show Bel w105 _ from (by (try simp only [ext_ext]); repeat (first | exact Bel.refl _ | assumption | refine bel_and ?_ _ | refine bel_drews ?_ _ | refine Bel.ext ?_ _ | refine Bel.alloc ?_ _ | refine Bel.drewN ?_ _))) (n := 1101) (by omega) rfl _ _ rfl rfl rfl ?_; rintro g105 y105 hg105 hown105)
          refine (decE (List.replicate 1101 0) Ask.zero 0 4 (by simp) (dec_many (by simp)) _ _ _ _ (by simp) (by have h := hown105.sl; rw [made_bytes 1101] at h; exact h)).mono ?_
          rintro e w106 ⟨rfl, hq⟩
          have hx : Bel w105 w106 := Bel.trans (show Bel w105 _ from (by (try simp only [ext_ext]); repeat (first | exact Bel.refl _ | assumption | refine bel_and ?_ _ | refine bel_drews ?_ _ | refine Bel.ext ?_ _ | refine Bel.alloc ?_ _ | refine Bel.drewN ?_ _))) (bel_of hq)
          clear hq
          replace hb := hb.trans hx
          replace sM := sM.bel hx
          clear hx
          simp only [Ask.zero]
          go_wp2_with (refine make_ext slt_bytes (show Bel w106 _ from (by (try simp only [ext_ext]); repeat (first | exact Bel.refl _ | assumption | refine bel_and ?_ _ | refine bel_drews ?_ _ | refine Bel.ext ?_ _ | refine Bel.alloc ?_ _ | refine Bel.drewN ?_ _))) (n := 1101) (by omega) rfl _ _ rfl rfl rfl ?_; rintro g106 y106 hg106 hown106)
          refine (wlE (List.replicate 1101 0) _ 4 (by simp) wl_1101 _ _ _ _ (by simp) (by have h := hown106.sl; rw [made_bytes 1101] at h; exact h.bel (by (try simp only [ext_ext]); repeat (first | exact Bel.refl _ | assumption | refine bel_and ?_ _ | refine bel_drews ?_ _ | refine Bel.ext ?_ _ | refine Bel.alloc ?_ _ | refine Bel.drewN ?_ _))) (fun h => by cases h)).mono ?_
          rintro e w107 ⟨A106, c106, rfl, hq⟩
          have hx : Bel w106 w107 := Bel.trans (show Bel w106 _ from (by (try simp only [ext_ext]); repeat (first | exact Bel.refl _ | assumption | refine bel_and ?_ _ | refine bel_drews ?_ _ | refine Bel.ext ?_ _ | refine Bel.alloc ?_ _ | refine Bel.drewN ?_ _))) (bel_of hq)
          clear hq
          replace hb := hb.trans hx
          replace sM := sM.bel hx
          clear hx
          go_wp2_with fail
          refine (decE [] Ask.zero 0 12 (by simp) (by decide +kernel) none 0 0 _ rfl (Sl.nil_ _ _ _ _)).mono ?_
          rintro e w108 ⟨rfl, hq⟩
          have hx : Bel w107 w108 := Bel.trans (show Bel w107 _ from (by (try simp only [ext_ext]); repeat (first | exact Bel.refl _ | assumption | refine bel_and ?_ _ | refine bel_drews ?_ _ | refine Bel.ext ?_ _ | refine Bel.alloc ?_ _ | refine Bel.drewN ?_ _))) (bel_of hq)
          clear hq
          replace hb := hb.trans hx
          replace sM := sM.bel hx
          clear hx
          simp only [Ask.zero]
          go_wp2_with fail
          refine (rdE [] [] 0 (by simp) (by decide +kernel) none 0 0 _ rfl (Sl.nil_ _ _ _ _)).mono ?_
          rintro e w109 ⟨A108, c108, rfl, hq⟩
          have hx : Bel w108 w109 := Bel.trans (show Bel w108 _ from (by (try simp only [ext_ext]); repeat (first | exact Bel.refl _ | assumption | refine bel_and ?_ _ | refine bel_drews ?_ _ | refine Bel.ext ?_ _ | refine Bel.alloc ?_ _ | refine Bel.drewN ?_ _))) (bel_of hq)
          clear hq
          replace hb := hb.trans hx
          replace sM := sM.bel hx
          clear hx
          go_wp2_with fail
          refine (wlE [] [] 0 (by simp) (by decide +kernel) none 0 0 _ rfl (Sl.nil_ _ _ _ _) (fun _ => rfl)).mono ?_
          rintro e w110 ⟨A109, c109, rfl, hq⟩
          have hx : Bel w109 w110 := Bel.trans (show Bel w109 _ from (by (try simp only [ext_ext]); repeat (first | exact Bel.refl _ | assumption | refine bel_and ?_ _ | refine bel_drews ?_ _ | refine Bel.ext ?_ _ | refine Bel.alloc ?_ _ | refine Bel.drewN ?_ _))) (bel_of hq)
          clear hq
          replace hb := hb.trans hx
          replace sM := sM.bel hx
          clear hx
          go_wp2_with (first | (at_builtin; (try refine wpList_unguard rfl (by first | rfl | simp [yielded]) ?_); refine append_new slt_bytes (by (try simp only [ext_ext]); repeat (first | exact Bel.refl _ | assumption | refine bel_and ?_ _ | refine bel_drews ?_ _ | refine Bel.ext ?_ _ | refine Bel.alloc ?_ _ | refine Bel.drewN ?_ _)) (sM.sl) (by (try simp only [ext_ext]); repeat (first | exact Bel.refl _ | assumption | refine bel_and ?_ _ | refine bel_drews ?_ _ | refine Bel.ext ?_ _ | refine Bel.alloc ?_ _ | refine Bel.drewN ?_ _)) (vb_one _) ((fun h => by cases h)) (by omega) rfl _ _ rfl rfl rfl (by simp [go_sem]) ?_; rintro A3 c3 y3 hown3) | (at_builtin; (try refine wpList_unguard rfl (by first | rfl | simp [yielded]) ?_); refine append_any slt_bytes (by (try simp only [ext_ext]); repeat (first | exact Bel.refl _ | assumption | refine bel_and ?_ _ | refine bel_drews ?_ _ | refine Bel.ext ?_ _ | refine Bel.alloc ?_ _ | refine Bel.drewN ?_ _)) hown3 (by (try simp only [ext_ext]); repeat (first | exact Bel.refl _ | assumption | refine bel_and ?_ _ | refine bel_drews ?_ _ | refine Bel.ext ?_ _ | refine Bel.alloc ?_ _ | refine Bel.drewN ?_ _)) (sl_555 (ext w110 y3) _ _ (by simp [go_sem])) (by (try simp only [ext_ext]); repeat (first | exact Bel.refl _ | assumption | refine bel_and ?_ _ | refine bel_drews ?_ _ | refine Bel.ext ?_ _ | refine Bel.alloc ?_ _ | refine Bel.drewN ?_ _)) (vb_one _) ((fun h => by cases h)) (by omega) rfl _ _ rfl rfl rfl ?_; rintro A4 c4 y4 hown4))
          refine (wlE (List.replicate 120 5 ++ [5, 5, 5]) _ 0 (by simp) wl_many123 _ _ _ _ (by simp) (by rw [vb_append]; exact hown4.sl.bel (by (try simp only [ext_ext]); repeat (first | exact Bel.refl _ | assumption | refine bel_and ?_ _ | refine bel_drews ?_ _ | refine Bel.ext ?_ _ | refine Bel.alloc ?_ _ | refine Bel.drewN ?_ _))) hown4.nilc).mono ?_
          rintro e w111 ⟨A110, c110, rfl, hq⟩
          have hx : Bel w110 w111 := Bel.trans (show Bel w110 _ from (by (try simp only [ext_ext]); repeat (first | exact Bel.refl _ | assumption | refine bel_and ?_ _ | refine bel_drews ?_ _ | refine Bel.ext ?_ _ | refine Bel.alloc ?_ _ | refine Bel.drewN ?_ _))) (bel_of hq)
          clear hq
          replace hb := hb.trans hx
          replace sM := sM.bel hx
          clear hx
          go_wp2_with fail
          refine (decLit [2, 0, 7, 1] ⟨2, 0, 0, 0, 7, 0, 0⟩ 3 0 (by simp) (by decide +kernel) _ _ _ (by simp [go_sem])).mono ?_
          rintro e w112 ⟨rfl, hq⟩
          have hx : Bel w111 w112 := Bel.trans (show Bel w111 _ from (by (try simp only [ext_ext]); repeat (first | exact Bel.refl _ | assumption | refine bel_and ?_ _ | refine bel_drews ?_ _ | refine Bel.ext ?_ _ | refine Bel.alloc ?_ _ | refine Bel.drewN ?_ _))) (bel_of hq)
          clear hq
          replace hb := hb.trans hx
          replace sM := sM.bel hx
          clear hx
          clear sM
          go_wp2_with fail
          go_wp2_with fail
          refine (wild_lit [7, 1] [⟨2, 0, 0, 0, 256, 0, 0⟩] _ _ _ _ _ (by simp [go_sem]) (by simp [go_sem]) (by decide) (by decide) (by decide +kernel)).mono ?_
          rintro e w113 ⟨rfl, hq⟩
          have hx : Bel w112 w113 := Bel.trans (show Bel w112 _ from (by (try simp only [ext_ext]); repeat (first | exact Bel.refl _ | assumption | refine bel_and ?_ _ | refine bel_drews ?_ _ | refine Bel.ext ?_ _ | refine Bel.alloc ?_ _ | refine Bel.drewN ?_ _))) (bel_of hq)
          have sF : Sl w113 7 (some ⟨w112.heap.size, 0, none⟩) 1 1 (#[.int .u8 2, .int .i64 0, .int .i64 0, .int .i64 0, .int .i64 7, .int .i64 0, .int .i64 0] : Array Value).toList := (sl_new w112 #[.int .u8 2, .int .i64 0, .int .i64 0, .int .i64 0, .int .i64 7, .int .i64 0, .int .i64 0] 27 7 _ rfl rfl).bel (by obtain ⟨y, hy⟩ := hq; rw [hy]; exact (by (try simp only [ext_ext]); repeat (first | exact Bel.refl _ | assumption | refine bel_and ?_ _ | refine bel_drews ?_ _ | refine Bel.ext ?_ _ | refine Bel.alloc ?_ _ | refine Bel.drewN ?_ _)))
          clear hq
          replace hb := hb.trans hx
          clear hx
          go_wp2_with fail
          refine (wild_lit [0, 0, 0, 32, 0, 1, 255, 255, 255] [⟨1, 0, -1048576, 1048568, 0, 0, 0⟩] _ _ _ _ _ (by simp [go_sem]) (by simp [go_sem]) (by decide) (by decide) (by decide +kernel)).mono ?_
          rintro e w114 ⟨rfl, hq⟩
          have hx : Bel w113 w114 := Bel.trans (show Bel w113 _ from (by (try simp only [ext_ext]); repeat (first | exact Bel.refl _ | assumption | refine bel_and ?_ _ | refine bel_drews ?_ _ | refine Bel.ext ?_ _ | refine Bel.alloc ?_ _ | refine Bel.drewN ?_ _))) (bel_of hq)
          clear hq
          replace hb := hb.trans hx
          replace sF := sF.bel hx
          clear hx
          go_wp2_with fail
          refine (wild_lit [4, 255, 255, 255, 255, 4, 1] [⟨4, 0, 0, 0, 0, 536870911, 1⟩] _ _ _ _ _ (by simp [go_sem]) (by simp [go_sem]) (by decide) (by decide) (by decide +kernel)).mono ?_
          rintro e w115 ⟨rfl, hq⟩
          have hx : Bel w114 w115 := Bel.trans (show Bel w114 _ from (by (try simp only [ext_ext]); repeat (first | exact Bel.refl _ | assumption | refine bel_and ?_ _ | refine bel_drews ?_ _ | refine Bel.ext ?_ _ | refine Bel.alloc ?_ _ | refine Bel.drewN ?_ _))) (bel_of hq)
          clear hq
          replace hb := hb.trans hx
          replace sF := sF.bel hx
          clear hx
          go_wp2_with fail
          refine (wild_lit [4, 64, 0, 0, 6, 0, 4] [⟨4, 0, 0, 0, 0, 3, 2⟩] _ _ _ _ _ (by simp [go_sem]) (by simp [go_sem]) (by decide) (by decide) (by decide +kernel)).mono ?_
          rintro e w116 ⟨rfl, hq⟩
          have hx : Bel w115 w116 := Bel.trans (show Bel w115 _ from (by (try simp only [ext_ext]); repeat (first | exact Bel.refl _ | assumption | refine bel_and ?_ _ | refine bel_drews ?_ _ | refine Bel.ext ?_ _ | refine Bel.alloc ?_ _ | refine Bel.drewN ?_ _))) (bel_of hq)
          clear hq
          replace hb := hb.trans hx
          replace sF := sF.bel hx
          clear hx
          go_wp2_with fail
          refine (wild_lit [4, 128, 0, 0, 1, 0, 0] [⟨4, 0, 0, 0, 0, -1073741824, 1⟩] _ _ _ _ _ (by simp [go_sem]) (by simp [go_sem]) (by decide) (by decide) (by decide +kernel)).mono ?_
          rintro e w117 ⟨rfl, hq⟩
          have hx : Bel w116 w117 := Bel.trans (show Bel w116 _ from (by (try simp only [ext_ext]); repeat (first | exact Bel.refl _ | assumption | refine bel_and ?_ _ | refine bel_drews ?_ _ | refine Bel.ext ?_ _ | refine Bel.alloc ?_ _ | refine Bel.drewN ?_ _))) (bel_of hq)
          clear hq
          replace hb := hb.trans hx
          replace sF := sF.bel hx
          clear hx
          go_wp2_with fail
          refine (wild_lit [255, 255] [⟨4, 0, 0, 0, 0, 1056964607, 1⟩] _ _ _ _ _ (by simp [go_sem]) (by simp [go_sem]) (by decide) (by decide) (by decide +kernel)).mono ?_
          rintro e w118 ⟨rfl, hq⟩
          have hx : Bel w117 w118 := Bel.trans (show Bel w117 _ from (by (try simp only [ext_ext]); repeat (first | exact Bel.refl _ | assumption | refine bel_and ?_ _ | refine bel_drews ?_ _ | refine Bel.ext ?_ _ | refine Bel.alloc ?_ _ | refine Bel.drewN ?_ _))) (bel_of hq)
          clear hq
          replace hb := hb.trans hx
          replace sF := sF.bel hx
          clear hx
          have heq : eqA 2 0 0 0 7 0 0 2 0 0 0 7 0 0 = true := by decide
          have ff0 := sF.cell (j := 0) (u := .int .u8 2) rfl
          have ff1 := sF.cell (j := 1) (u := .int .i64 0) rfl
          have ff2 := sF.cell (j := 2) (u := .int .i64 0) rfl
          have ff3 := sF.cell (j := 3) (u := .int .i64 0) rfl
          have ff4 := sF.cell (j := 4) (u := .int .i64 7) rfl
          have ff5 := sF.cell (j := 5) (u := .int .i64 0) rfl
          have ff6 := sF.cell (j := 6) (u := .int .i64 0) rfl
          simp only [Nat.zero_add] at ff0 ff1 ff2 ff3 ff4 ff5 ff6
          go_wp2_with fail
          refine (alive_any _).mono ?_
          rintro e w119 ⟨rfl, hq⟩
          have hx : Bel w118 w119 := Bel.trans (show Bel w118 _ from (by (try simp only [ext_ext]); repeat (first | exact Bel.refl _ | assumption | refine bel_and ?_ _ | refine bel_drews ?_ _ | refine Bel.ext ?_ _ | refine Bel.alloc ?_ _ | refine Bel.drewN ?_ _))) (bel_of hq)
          clear hq
          replace hb := hb.trans hx
          clear hx
          go_wp2
          go_ret
          exact ⟨ret_bool (by first | rfl | simp), ext_of hb⟩
set_option maxRecDepth 100000 in
theorem decodeNames_lifted (os : Os) (started : os.Started) (H : Type) (enc : TypeId × Value → H) :
    ReturnsInHanded {} Try.checked os 6 .any (Rows.decodeNamesSpec.pre6 enc Try.prog Try.f6 Rows.decodeNamesRow.domain false) (Rows.decodeNamesSpec.post enc Try.prog Try.f6 false true false false) := by
  refine returnsInHanded_of_change (C := Try.checked) ownKnob_ started (by kernel_rfl) Try.func6
    (ChangeSpec.witness6 (enc := enc) (C := Try.checked) false ⟨#[], #[], []⟩ 8 (by kernel_rfl) (by kernel_rfl) (by kernel_rfl) (by kernel_rfl)) ?_
  intro W base args ds gs before hval0 hW hcnd _
  have hval : ∀ (j : Nat) t v, Try.f6.params[j]? = some t → args[j]? = some v → Value.okWide Try.prog W .any base t v := hval0
  have hW' := hW
  obtain ⟨p, q, hA0, hV, rfl, hfz, hnd⟩ := hW
  have hA : DataW.TrodAll enc Try.prog W 0 (fun _ => true) true Try.f6.params.toList args.toList ds p := hA0
  rw [Try.params6] at hA hval
  obtain ⟨hargs, rfl, rfl⟩ := trodAll_nil hA
  obtain rfl : args = #[] := by cases args; simp_all
  obtain ⟨rfl, rfl⟩ := trodVars_none hV
  clear hA0 hval0
  refine (names_walk W).mono fun e W' ⟨he, hx⟩ => ?_
  have bel : Below W.heap.size W W' := bel_of hx
  subst he
  exact ⟨_, rfl, _, _, _, [], _, [], hW', trodAll_mk1 (shut_bool Try.underlying4 _), trodAll_mk0, rfl, bel.frame _, fun h => by cases h⟩
theorem decodeNames_over : Rows.decodeNamesRow.holds Try.pinned (OpenSpec.ofChange Rows.decodeNamesSpec) :=
  OpenClaim.holds_of_wide 6 Try.f6 rfl rfl rfl rfl rfl rfl rfl ⟨rfl, rfl, rfl, rfl, rfl⟩ rfl rfl rfl rfl rfl (by kernel_rfl) Try.func6 (by kernel_rfl)
    (of_decide_eq_true (by kernel_rfl)) (by unfold Func.isWrapper; rw [if_neg (of_decide_eq_false (by kernel_rfl))]; exact ⟨rfl, rfl⟩)
    (fun os started H enc _ => decodeNames_lifted os started H enc)
/-- The statement. -/
theorem decodeNames_holds : Rows.DecodeNamesSaid := decodeNames_over
end Go.Proofs.Ytijinelgbiombaa
