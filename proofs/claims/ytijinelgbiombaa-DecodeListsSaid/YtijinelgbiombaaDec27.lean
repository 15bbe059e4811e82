/- The reference's wild (printed by genwild.py). -/
import Derived.Test.YtijinelgbiombaaDec23
import Derived.Test.YtijinelgbiombaaDec24
import Derived.Test.YtijinelgbiombaaDec25
import Derived.Test.YtijinelgbiombaaDec26
set_option linter.unusedSimpArgs false
set_option linter.unusedVariables false
namespace Go.Proofs.Ytijinelgbiombaa
open Go.RowKit Go.Pel
theorem refwild_any (A : Option Addr) (c : Nat) (l : List UInt8) (w : World) (hs : Sl w 1 A l.length c (vb l)) (hl : l.length ≤ 1000000) (h0 : 0 < l.length) :
    Calls Try.prog 41 #[.slice A l.length c] w fun e w' => e = .returned (.tuple #[.agg #[.int .u8 (wildAsk l).k, .int .i64 (wildAsk l).i, .int .i64 (wildAsk l).a, .int .i64 (wildAsk l).b, .int .i64 (wildAsk l).j, .int .i64 (wildAsk l).n, .int .i64 (wildAsk l).d], .int .i64 (wildLen l)]) ∧ ∃ x, w' = ext w x := by
  obtain ⟨x, hx⟩ : ∃ x, l[0]? = some x := ⟨_, List.getElem?_eq_getElem h0⟩
  obtain ⟨b, o, rfl, hb⟩ := hs.at_ h0
  have h256 := UInt8.toNat_lt x
  obtain ⟨k, hk⟩ : ∃ k, kindV x.toNat = k := ⟨_, rfl⟩
  have hr := kindV_range x.toNat
  have hu := hk
  unfold kindV at hu
  rcases (by omega : k = 1 ∨ k = 2 ∨ k = 3 ∨ k = 4 ∨ k = 5 ∨ k = 6) with rfl | rfl | rfl | rfl | rfl | rfl
  · rcases (by split at hu <;> omega : (x.toNat : Int) = 0 ∨ (x.toNat : Int) = 1 ∨ (6 < (x.toNat : Int) ∧ 1 + (x.toNat : Int) % 6 = 1)) with h | h | h
    · exact refwild_1z b o c l w hs hb hl h0 x hx hk h
    · exact refwild_1i b o c l w hs hb hl h0 x hx hk h
    · exact refwild_1o b o c l w hs hb hl h0 x hx hk h
  · rcases (by split at hu <;> omega : (x.toNat : Int) = 2 ∨ (6 < (x.toNat : Int) ∧ 1 + (x.toNat : Int) % 6 = 2)) with h | h
    · exact refwild_2i b o c l w hs hb hl h0 x hx hk h
    · exact refwild_2o b o c l w hs hb hl h0 x hx hk h
  · rcases (by split at hu <;> omega : (x.toNat : Int) = 3 ∨ (6 < (x.toNat : Int) ∧ 1 + (x.toNat : Int) % 6 = 3)) with h | h
    · exact refwild_3i b o c l w hs hb hl h0 x hx hk h
    · exact refwild_3o b o c l w hs hb hl h0 x hx hk h
  · rcases (by split at hu <;> omega : (x.toNat : Int) = 4 ∨ (6 < (x.toNat : Int) ∧ 1 + (x.toNat : Int) % 6 = 4)) with h | h
    · exact refwild_4i b o c l w hs hb hl h0 x hx hk h
    · exact refwild_4o b o c l w hs hb hl h0 x hx hk h
  · rcases (by split at hu <;> omega : (x.toNat : Int) = 5 ∨ (6 < (x.toNat : Int) ∧ 1 + (x.toNat : Int) % 6 = 5)) with h | h
    · exact refwild_5i b o c l w hs hb hl h0 x hx hk h
    · exact refwild_5o b o c l w hs hb hl h0 x hx hk h
  · rcases (by split at hu <;> omega : (x.toNat : Int) = 6 ∨ (6 < (x.toNat : Int) ∧ 1 + (x.toNat : Int) % 6 = 6)) with h | h
    · exact refwild_6i b o c l w hs hb hl h0 x hx hk h
    · exact refwild_6o b o c l w hs hb hl h0 x hx hk h

end Go.Proofs.Ytijinelgbiombaa
