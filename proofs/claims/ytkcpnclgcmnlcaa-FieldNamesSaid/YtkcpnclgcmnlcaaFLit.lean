/- Contracts of fields with their results as letters; given and at of the laws. -/
import Derived.Test.YtkcpnclgcmnlcaaSpec6
import Derived.Test.YtkcpnclgcmnlcaaLaw2
import Derived.Test.YtkcpnclgcmnlcaaFld7
import Derived.Test.YtkcpnclgcmnlcaaFld8
import Derived.Test.YtkcpnclgcmnlcaaCrs3
set_option linter.unusedSimpArgs false
set_option linter.unusedVariables false
namespace Go.Proofs.Ytkcpnclgcmnlcaa
open Go.RowKit Go.Pel
section
variable (A : Option Addr) (c : Nat) (l : List Pt)
theorem fcheck_lit (v : Int) (h : fieldChk l = v) (w : World) (hs : Sl w 3 A l.length c (vp l)) :
    Calls Try.prog 25 #[.agg #[.slice A l.length c]] w fun e w' => e = .returned (.int .i64 v) ∧ ∃ x, w' = ext w x := h ▸ fieldCheck_any A c l w hs
theorem find_lit (id : Int) (p : Pt) (v : Int) (h : fieldFind l id = (p, v)) (w : World) (hs : Sl w 3 A l.length c (vp l)) :
    Calls Try.prog 17 #[.agg #[.slice A l.length c], .int .i64 id] w fun e w' => e = .returned (.tuple #[.agg #[.int .i64 p.id, .int .i64 p.a, .int .i64 p.b], .int .i64 v]) ∧ ∃ x, w' = ext w x := by
  have := fieldFind_any A c l id w hs
  rw [h] at this; exact this
theorem put_lit (p : Pt) (L : List Pt) (v : Int) (h : fieldPut l p = (L, v)) (w : World) (hs : Sl w 3 A l.length c (vp l)) (hn : A = none → c = 0) :
    Calls Try.prog 19 #[.agg #[.slice A l.length c], .agg #[.int .i64 p.id, .int .i64 p.a, .int .i64 p.b]] w fun e w' => ∃ A' c', e = .returned (.tuple #[.agg #[.slice A' L.length c'], .int .i64 v]) ∧ ∃ x, w' = ext w x ∧ Own (ext w x) w.heap.size 26 3 A' L.length c' (vp L) := by
  have := fieldPut_any A c l p w hs hn
  rw [h] at this; exact this
theorem take_lit (id : Int) (L : List Pt) (v : Int) (h : fieldTake l id = (L, v)) (w : World) (hs : Sl w 3 A l.length c (vp l)) (hn : A = none → c = 0) :
    Calls Try.prog 21 #[.agg #[.slice A l.length c], .int .i64 id] w fun e w' => ∃ A' c', e = .returned (.tuple #[.agg #[.slice A' L.length c'], .int .i64 v]) ∧ ∃ x, w' = ext w x ∧ Own (ext w x) w.heap.size 26 3 A' L.length c' (vp L) := by
  have := fieldTake_any A c l id w hs hn
  rw [h] at this; exact this
theorem change_lit (p : Pt) (L : List Pt) (v : Int) (h : fieldChange l p = (L, v)) (w : World) (hs : Sl w 3 A l.length c (vp l)) (hn : A = none → c = 0) :
    Calls Try.prog 23 #[.agg #[.slice A l.length c], .agg #[.int .i64 p.id, .int .i64 p.a, .int .i64 p.b]] w fun e w' => ∃ A' c', e = .returned (.tuple #[.agg #[.slice A' L.length c'], .int .i64 v]) ∧ ∃ x, w' = ext w x ∧ Own (ext w x) w.heap.size 26 3 A' L.length c' (vp L) := by
  have := fieldChange_any A c l p w hs hn
  rw [h] at this; exact this
theorem leader_lit (n d i v : Int) (h : fieldLeader l n d = (i, v)) (w : World) (hn : -9223372036854775808 ≤ n ∧ n ≤ 9223372036854775807) (hd : -9223372036854775808 ≤ d ∧ d ≤ 9223372036854775807) (hs : Sl w 3 A l.length c (vp l)) (hn0 : A = none → c = 0) :
    Calls Try.prog 50 #[.agg #[.slice A l.length c], .agg #[.int .i64 n, .int .i64 d]] w fun e w' => e = .returned (.tuple #[.int .i64 i, .int .i64 v]) ∧ ∃ x, w' = ext w x := by
  have := leader_any A c l n d w hn hd hs hn0
  rw [h] at this; exact this
theorem order_lit (n d : Int) (L : List Int) (v : Int) (h : fieldOrder l n d = (L, v)) (w : World) (hn : -9223372036854775808 ≤ n ∧ n ≤ 9223372036854775807) (hd : -9223372036854775808 ≤ d ∧ d ≤ 9223372036854775807) (hs : Sl w 3 A l.length c (vp l)) (hn0 : A = none → c = 0) (hl : l.length ≤ 1000000) :
    Calls Try.prog 52 #[.agg #[.slice A l.length c], .agg #[.int .i64 n, .int .i64 d]] w fun e w' => ∃ A' c', e = .returned (.tuple #[.slice A' L.length c', .int .i64 v]) ∧ ∃ x, w' = ext w x ∧ Own (ext w x) w.heap.size 3 1 A' L.length c' (vi L) := by
  have := order_any A c l n d w hn hd hs hn0 hl
  rw [h] at this; exact this
theorem rank_lit (id n d r v : Int) (h : fieldRank l id n d = (r, v)) (w : World) (hn : -9223372036854775808 ≤ n ∧ n ≤ 9223372036854775807) (hd : -9223372036854775808 ≤ d ∧ d ≤ 9223372036854775807) (hs : Sl w 3 A l.length c (vp l)) (hn0 : A = none → c = 0) (hl : l.length ≤ 1000000) :
    Calls Try.prog 54 #[.agg #[.slice A l.length c], .int .i64 id, .agg #[.int .i64 n, .int .i64 d]] w fun e w' => e = .returned (.tuple #[.int .i64 r, .int .i64 v]) ∧ ∃ x, w' = ext w x := by
  have := rank_any A c l id n d w hn hd hs hn0 hl
  rw [h] at this; exact this
end
theorem ahead_lit (p q : Pt) (n d : Int) (b : Bool) (v : Int) (h : aheadV p q n d = (b, v)) (w : World) (hn : -9223372036854775808 ≤ n ∧ n ≤ 9223372036854775807) (hd : -9223372036854775808 ≤ d ∧ d ≤ 9223372036854775807) :
    Calls Try.prog 58 #[.agg #[.int .i64 p.id, .int .i64 p.a, .int .i64 p.b], .agg #[.int .i64 q.id, .int .i64 q.a, .int .i64 q.b], .agg #[.int .i64 n, .int .i64 d]] w fun e w' => e = .returned (.tuple #[.bool b, .int .i64 v]) ∧ ∃ x, w' = ext w x := by
  have := ahead_any p q n d w hn hd
  rw [h] at this; exact this
theorem sameIDs_lit (A B : Option Addr) (c d : Nat) (l m : List Int) (b : Bool) (h : decide (l = m) = b) (w : World) (hs : Sl w 1 A l.length c (vi l)) (ht : Sl w 1 B m.length d (vi m)) (hl : l.length ≤ 1000000) (hm : m.length ≤ 1000000) :
    Calls Try.prog 34 #[.slice A l.length c, .slice B m.length d] w fun e w' => e = .returned (.bool b) ∧ ∃ x, w' = ext w x := h ▸ sameIDs_any A B c d l m w hs ht hl hm
theorem same03_lit (A B : Option Addr) (c d : Nat) (l m : List Pt) (b : Bool) (h : decide (l = m) = b) (w : World) (hs : Sl w 3 A l.length c (vp l)) (ht : Sl w 3 B m.length d (vp m)) (hl : l.length ≤ 1000000) (hm : m.length ≤ 1000000) :
    Calls Try.prog 27 #[.agg #[.slice A l.length c], .agg #[.slice B m.length d]] w fun e w' => e = .returned (.bool b) ∧ ∃ x, w' = ext w x := h ▸ same03_any A B c d l m w hs ht hl hm
theorem timed_lit (A : Option Addr) (c : Nat) (l : List Pt) (n d v : Int) (h : timed l n d = v) (w : World) (hn : -9223372036854775808 ≤ n ∧ n ≤ 9223372036854775807) (hd : -9223372036854775808 ≤ d ∧ d ≤ 9223372036854775807) (hs : Sl w 3 A l.length c (vp l)) (hl : l.length ≤ 1000000) :
    Calls Try.prog 45 #[.agg #[.slice A l.length c], .agg #[.int .i64 n, .int .i64 d]] w fun e w' => e = .returned (.int .i64 v) ∧ ∃ x, w' = ext w x := h ▸ timed_any A c l n d w hn hd hs hl
theorem great_lit (A : Option Addr) (n c : Nat) (b : Bool) (h : great n = b) (w : World) : Calls Try.prog 15 #[.agg #[.slice A n c]] w fun e w' => e = .returned (.bool b) ∧ ∃ x, w' = ext w x := h ▸ great_any A n c w
theorem ref3chk_lit (A : Option Addr) (c : Nat) (l : List Pt) (v : Int) (h : fieldChk l = v) (w : World) (hs : Sl w 3 A l.length c (vp l)) :
    Calls Try.prog 26 #[.agg #[.slice A l.length c]] w fun e w' => e = .returned (.int .i64 v) ∧ ∃ x, w' = ext w x := h ▸ ref03Check_any A c l w hs
end Go.Proofs.Ytkcpnclgcmnlcaa
