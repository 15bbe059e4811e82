/- The law's 'is': an ask has some bytes, and is read from them. -/
import Derived.Test.YtijinelgbiombaaDec10
import Derived.Test.YtijinelgbiombaaDec21
set_option linter.unusedSimpArgs false
set_option linter.unusedVariables false
namespace Go.Proofs.Ytijinelgbiombaa
open Go.RowKit Go.Pel
attribute [local go_sem ↓] equal_ask0
set_option maxRecDepth 10000 in
set_option maxHeartbeats 2000000 in
theorem is_yes (b o c : Nat) (x : Pel.Ask) (l : List UInt8) (w : World) (hs : Sl w 1 (some ⟨b, o, none⟩) l.length c (vb l)) (hl : l.length ≤ 1000000) (hf : x.Fits) (h1 : x.chk = 0) (h2 : x.bytes = l) (h3 : decAsk l = x) (h4 : decLen l = l.length) (h5 : decErr l = 0) :
    Calls Try.prog 24 #[.agg #[.int .u8 (x).k, .int .i64 (x).i, .int .i64 (x).a, .int .i64 (x).b, .int .i64 (x).j, .int .i64 (x).n, .int .i64 (x).d], .slice (some ⟨b, o, none⟩) l.length c] w fun e w' => e = .returned (.bool true) ∧ ∃ x, w' = ext w x := by
  obtain ⟨⟨u1, u2⟩, ⟨u3, u4⟩, ⟨u5, u6⟩, ⟨u7, u8⟩, ⟨u9, u10⟩, ⟨u11, u12⟩, ⟨u13, u14⟩⟩ := hf
  have e1 : encBytes x.k x.i x.a x.b x.j x.n x.d = l := (encBytes_yes h1).trans h2
  have e2 : askChk x.k x.i x.a x.b x.j x.n x.d = 0 := h1
  have hq := fun W => encode_any x.k x.i x.a x.b x.j x.n x.d W (by omega) (by omega) (by omega) (by omega) (by omega) (by omega)
  have hd := fun W (hb : Bel w W) => decode_any (some ⟨b, o, none⟩) c l W (hs.bel hb) hl
  simp only [e1, e2] at hq
  simp only [h3, h4, h5] at hd
  have hq := Lib.hid hq
  have hd := Lib.hid hd
  have heq := eqA_yes x
  clear h1 h2 h3 h4 h5 e1 e2
  have HS := Lib.hid hs
  go_enter Try.func24, Try.ntmps24
  go_wp2_with fail
  refine (hq.out _).mono ?_
  rintro e _ ⟨A5, c5, rfl, x5, rfl, own5⟩
  go_wp2_with fail
  refine (hd.out _ (by (try simp only [ext_ext]); repeat (first | exact Bel.refl _ | assumption | refine bel_and ?_ _ | refine bel_drews ?_ _ | refine Bel.ext ?_ _ | refine Bel.alloc ?_ _ | refine Bel.drewN ?_ _))).mono ?_
  rintro e _ ⟨rfl, x6, rfl⟩
  have cv5 : ∀ z ob, (convert 28 9 (.slice A5 l.length c5)).run Try.prog ((ext (w.alloc (.cells #[.int .u8 x.k, .int .i64 x.i, .int .i64 x.a, .int .i64 x.b, .int .i64 x.j, .int .i64 x.n, .int .i64 x.d] 27)) (x5.and z)).alloc ob) = .ok (.string ⟨l.toArray⟩) ((ext (w.alloc (.cells #[.int .u8 x.k, .int .i64 x.i, .int .i64 x.a, .int .i64 x.b, .int .i64 x.j, .int .i64 x.n, .int .i64 x.d] 27)) (x5.and z)).alloc ob) := fun z ob => conv_own own5 (by (try simp only [ext_ext]); repeat (first | exact Bel.refl _ | assumption | refine bel_and ?_ _ | refine bel_drews ?_ _ | refine Bel.ext ?_ _ | refine Bel.alloc ?_ _ | refine Bel.drewN ?_ _)) Try.underlying28 Try.underlying5 Try.underlying9
  have cv6 : ∀ z ob, (convert 28 9 (.slice (some ⟨b, o, none⟩) l.length c)).run Try.prog ((ext (w.alloc (.cells #[.int .u8 x.k, .int .i64 x.i, .int .i64 x.a, .int .i64 x.b, .int .i64 x.j, .int .i64 x.n, .int .i64 x.d] 27)) (x5.and z)).alloc ob) = .ok (.string ⟨l.toArray⟩) ((ext (w.alloc (.cells #[.int .u8 x.k, .int .i64 x.i, .int .i64 x.a, .int .i64 x.b, .int .i64 x.j, .int .i64 x.n, .int .i64 x.d] 27)) (x5.and z)).alloc ob) := fun z ob => conv_sl HS.out (by (try simp only [ext_ext]); repeat (first | exact Bel.refl _ | assumption | refine bel_and ?_ _ | refine bel_drews ?_ _ | refine Bel.ext ?_ _ | refine Bel.alloc ?_ _ | refine Bel.drewN ?_ _)) Try.underlying28 Try.underlying5 Try.underlying9
  go_wp2
  (go_ret; exact ⟨ret_bool (by rfl), ext_of (by (try simp only [ext_ext]); repeat (first | exact Bel.refl _ | assumption | refine bel_and ?_ _ | refine bel_drews ?_ _ | refine Bel.ext ?_ _ | refine Bel.alloc ?_ _ | refine Bel.drewN ?_ _))⟩)
end Go.Proofs.Ytijinelgbiombaa
