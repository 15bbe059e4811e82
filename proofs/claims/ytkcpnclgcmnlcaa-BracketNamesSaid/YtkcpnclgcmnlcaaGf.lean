/- Walks of the references; the orders agree; examples. -/
import Derived.Laws.MakeOwn
import Derived.RangeFuncRecord
import Derived.RangeFuncSeq
import Derived.RangeFuncBound
import Derived.Shelf.Abstract
import Derived.Shelf.RegionOpen
import Derived.WalkKit
import Derived.OwnWalkIn
import Derived.TacticsInMore
import Derived.LoopNIn
import Derived.LoopIn
import Derived.Test.YtkcpnclgcmnlcaaGe
set_option linter.unusedSimpArgs false
set_option linter.unusedVariables false
namespace Go
open RowKit
/-- where a row lies: at block g, or from block n on -/
def Lo (A : Option Addr) (g n : Nat) : Prop := ∀ k, A = some ⟨k, 0, none⟩ → k = g ∨ n ≤ k
/-- an empty literal of the call lies at g -/
def NewLit (V : World) (e : TypeId) (g : Nat) : Prop := ∃ W : World, Bel (W.alloc (.cells #[] e)) V ∧ g = W.heap.size
theorem NewLit.here {W : World} {e : TypeId} {g : Nat} (h : g = W.heap.size) : NewLit (W.alloc (.cells #[] e)) e g := ⟨W, Bel.refl _, h⟩
theorem NewLit.alloc {W : World} {e : TypeId} {g : Nat} {o : Obj} (h : NewLit W e g) : NewLit (W.alloc o) e g := by obtain ⟨W0, h1, h2⟩ := h; exact ⟨W0, h1.alloc _, h2⟩
theorem NewLit.ext {W : World} {e : TypeId} {g : Nat} {x : Beyond} (h : NewLit W e g) : NewLit (ext W x) e g := by obtain ⟨W0, h1, h2⟩ := h; exact ⟨W0, h1.ext _, h2⟩
theorem NewLit.drew {W : World} {e : TypeId} {g : Nat} (h : NewLit W e g) : NewLit W.drew e g := by obtain ⟨W0, h1, h2⟩ := h; exact ⟨W0, h1.drew, h2⟩
def RowsApart (A B : Option Addr) : Prop := ∀ k, A = some ⟨k, 0, none⟩ → B = some ⟨k, 0, none⟩ → False
theorem own_lt {w : World} {base : Nat} {e : TypeId} {size n c k : Nat} {xs : List Value} (h : Own w base e size (some ⟨k, 0, none⟩) n c xs) : k < w.heap.size := by
  rcases h.block with h0 | ⟨g, h0, _, h2⟩
  · cases h0
  · injection h0 with h0
    rw [show k = g from h0]; exact h2
theorem own_ge {w : World} {base : Nat} {e : TypeId} {size n c k : Nat} {xs : List Value} (h : Own w base e size (some ⟨k, 0, none⟩) n c xs) : base ≤ k := by
  rcases h.block with h0 | ⟨g, h0, h1, _⟩
  · cases h0
  · injection h0 with h0
    rw [show k = g from h0]; exact h1
theorem RowsApart.symm {A B : Option Addr} (h : RowsApart A B) : RowsApart B A := fun k h1 h2 => h k h2 h1
theorem apart_ge {w : World} {base : Nat} {e : TypeId} {size n c : Nat} {A B : Option Addr} {xs : List Value} (h : Own w base e size A n c xs) (hB : ∀ k, B = some ⟨k, 0, none⟩ → k < base) : RowsApart A B := by
  intro k h1 h2
  subst h1
  have := own_ge h
  have := hB k h2
  omega
/-- W' is over V' what W is over V, and V' is as great as V. -/
structure Swp (V V' W W' : World) : Prop where
  base : V.heap.size = V'.heap.size
  size : W.heap.size = W'.heap.size
  hi : ∀ k, V.heap.size ≤ k → W'.heap[k]? = W.heap[k]?
theorem Swp.refl {V V' : World} (h : V.heap.size = V'.heap.size) : Swp V V' V V' := ⟨h, h, fun k hk => by rw [Array.getElem?_eq_none hk, Array.getElem?_eq_none (by omega)]⟩
theorem Swp.ext {V V' W W' : World} (h : Swp V V' W W') (x : Beyond) : Swp V V' (ext W x) (ext W' x) := by
  refine ⟨h.base, by simp [h.size], fun k hk => ?_⟩
  have e1 : (Go.ext W x).heap = W.heap ++ x.objs := by unfold Go.ext; rfl
  have e2 : (Go.ext W' x).heap = W'.heap ++ x.objs := by unfold Go.ext; rfl
  rw [e1, e2]
  rcases Nat.lt_or_ge k W.heap.size with hl | hl
  · rw [Array.getElem?_append_left hl, Array.getElem?_append_left (by have := h.size; omega)]; exact h.hi k hk
  · rw [Array.getElem?_append_right hl, Array.getElem?_append_right (by have := h.size; omega), h.size]
theorem Swp.alloc {V V' W W' : World} (h : Swp V V' W W') (o : Obj) : Swp V V' (W.alloc o) (W'.alloc o) := by
  refine ⟨h.base, by simp [h.size], fun k hk => ?_⟩
  have e1 : (W.alloc o).heap = W.heap.push o := by unfold World.alloc; rfl
  have e2 : (W'.alloc o).heap = W'.heap.push o := by unfold World.alloc; rfl
  rw [e1, e2, Array.getElem?_push, Array.getElem?_push, h.hi k hk, h.size]
theorem Swp.drew {V V' W W' : World} (h : Swp V V' W W') : Swp V V' W.drew W'.drew := ⟨h.base, h.size, h.hi⟩
theorem pheap_ext (W : World) (x : Beyond) : (ext W x).heap = W.heap ++ x.objs := by unfold ext; rfl
theorem pheap_drew (W : World) : W.drew.heap = W.heap := rfl
theorem pheap_alloc (W : World) (o : Obj) : (W.alloc o).heap = W.heap ++ #[o] := by unfold World.alloc; simp
theorem objs_and (x y : Beyond) : (x.and y).objs = x.objs ++ y.objs := rfl
theorem objs_drewN (x : Beyond) (n : Nat) : (x.drewN n).objs = x.objs := rfl
/-- the blocks of W are the first ones of W' -/
def Pre (W W' : World) : Prop := ∃ r, W'.heap = W.heap ++ r
theorem pre_append {a b c : Array Obj} (h : ∃ r, a = b ++ r) : ∃ r, a ++ c = b ++ r := by
  obtain ⟨r, rfl⟩ := h
  exact ⟨r ++ c, by rw [Array.append_assoc]⟩
theorem pre_refl (a : Array Obj) : ∃ r, a = a ++ r := ⟨#[], by simp⟩
theorem own_pre {W W' : World} {base : Nat} {e : TypeId} {size n c : Nat} {A : Option Addr} {xs : List Value} (h : Own W base e size A n c xs) (hp : Pre W W') : Own W' base e size A n c xs := by
  obtain ⟨h1, h2⟩ := h
  obtain ⟨r, hr⟩ := hp
  refine ⟨h1, ?_⟩
  rcases h2 with h2 | ⟨g, cap, cur, hv', hg, hh, r'⟩
  · exact .inl h2
  · have hl : g < W.heap.size := by rcases Nat.lt_or_ge g W.heap.size with h | h; exact h; rw [Array.getElem?_eq_none h] at hh; cases hh
    exact .inr ⟨g, cap, cur, hv', hg, by rw [hr, Array.getElem?_append_left hl]; exact hh, r'⟩
theorem own_move {V V' W W1 W2 : World} {base : Nat} {e : TypeId} {size n c : Nat} {A : Option Addr} {xs : List Value} (h : Own W base e size A n c xs) (hs : Swp V V' W W1) (hb : Pre W1 W2) (hv : V.heap.size ≤ base) : Own W2 base e size A n c xs := by
  have h1 : Own W1 base e size A n c xs := by
    obtain ⟨h1, h2⟩ := h
    refine ⟨h1, ?_⟩
    rcases h2 with h2 | ⟨g, cap, cur, hv', hg, hh, r⟩
    · exact .inl h2
    · exact .inr ⟨g, cap, cur, hv', hg, by rw [hs.hi g (by omega)]; exact hh, r⟩
  exact own_pre h1 hb
theorem Box.here {W : World} {cs : Array Value} {e : TypeId} {b : Nat} (hb : b = W.heap.size) : Box (W.alloc (.cells cs e)) b cs := Box.new (Bel.refl _) hb
theorem Box.alloc {W : World} {cs : Array Value} {b : Nat} {o : Obj} (h : Box W b cs) : Box (W.alloc o) b cs := h.bel ((Bel.refl _).alloc _)
theorem Box.ext {W : World} {cs : Array Value} {b : Nat} {x : Beyond} (h : Box W b cs) : Box (ext W x) b cs := h.bel (bel_ext _ _)
theorem Box.drew {W : World} {cs : Array Value} {b : Nat} (h : Box W b cs) : Box W.drew b cs := h.bel (Bel.refl _).drew
theorem Own.here {W : World} {base : Nat} {cs : Array Value} {e : TypeId} {size n b : Nat} (hbk : b = W.heap.size) (hb : base ≤ b) (hn : n ≤ 1000000) (hs : cs.size = n * size) : Own (W.alloc (.cells cs e)) base e size (some ⟨b, 0, none⟩) n n cs.toList := by
  subst hbk
  exact World.ownsRow_lit W cs n hb (Nat.le_trans hn (by unfold maxLen; decide)) hs
theorem Own.alloc' {W : World} {base : Nat} {xs : List Value} {e : TypeId} {size n c : Nat} {A : Option Addr} {o : Obj} (h : Own W base e size A n c xs) : Own (W.alloc o) base e size A n c xs := h.alloc o
theorem Own.ext' {W : World} {base : Nat} {xs : List Value} {e : TypeId} {size n c : Nat} {A : Option Addr} {x : Beyond} (h : Own W base e size A n c xs) : Own (Go.ext W x) base e size A n c xs := h.ext x
theorem Own.drew' {W : World} {base : Nat} {xs : List Value} {e : TypeId} {size n c : Nat} {A : Option Addr} (h : Own W base e size A n c xs) : Own W.drew base e size A n c xs := h.bel (Bel.refl _).drew
/-- two heaps agree but at block g -/
def PBut (g : Nat) (a b : Array Obj) : Prop := ∀ k, k ≠ g → k < a.size → b[k]? = a[k]?
def PSame (g : Nat) (a b : Array Obj) : Prop := a.size = b.size ∧ ∀ k, k ≠ g → b[k]? = a[k]?
theorem PSame.refl (g : Nat) (a : Array Obj) : PSame g a a := ⟨rfl, fun _ _ => rfl⟩
theorem PSame.both {g : Nat} {a b : Array Obj} (h : PSame g a b) (c : Array Obj) : PSame g (a ++ c) (b ++ c) := by
  refine ⟨by simp [h.1], fun k hk => ?_⟩
  rcases Nat.lt_or_ge k a.size with hl | hl
  · rw [Array.getElem?_append_left hl, Array.getElem?_append_left (by have := h.1; omega)]; exact h.2 k hk
  · rw [Array.getElem?_append_right hl, Array.getElem?_append_right (by have := h.1; omega), h.1]
theorem PSame.swap {g : Nat} {a b : Array Obj} {o o' : Obj} (h : PSame g a b) (hg : g = a.size) : PSame g (a ++ #[o]) (b ++ #[o']) := by
  refine ⟨by simp [h.1], fun k hk => ?_⟩
  rcases Nat.lt_or_ge k a.size with hl | hl
  · rw [Array.getElem?_append_left hl, Array.getElem?_append_left (by have := h.1; omega)]; exact h.2 k hk
  · have hs := h.1
    have h1 : a.size + 1 ≤ k := by omega
    rw [Array.getElem?_eq_none (by first | simpa using h1 | (rw [hs] at h1; simpa using h1)), Array.getElem?_eq_none (by first | simpa using h1 | (rw [hs] at h1; simpa using h1))]
theorem PBut.same {g : Nat} {a b : Array Obj} (h : PSame g a b) : PBut g a b := fun k hk _ => h.2 k hk
theorem PBut.le {g : Nat} {a b : Array Obj} (h : PBut g a b) {k : Nat} (hk : k ≠ g) (hl : k < a.size) : k < b.size := by
  have h1 := h k hk hl
  rcases Nat.lt_or_ge k b.size with h2 | h2
  · exact h2
  · rw [Array.getElem?_eq_none h2, Array.getElem?_eq_getElem hl] at h1; cases h1
theorem PBut.right {g : Nat} {a b : Array Obj} (h : PBut g a b) (c : Array Obj) : PBut g a (b ++ c) := fun k hk hl => by
  rw [Array.getElem?_append_left (h.le hk hl)]; exact h k hk hl
theorem own_but {W W' : World} {base g : Nat} {e : TypeId} {size n c : Nat} {A : Option Addr} {xs : List Value} (h : Own W base e size A n c xs) (hA : ∀ q, A = some ⟨q, 0, none⟩ → q ≠ g) (hp : PBut g W.heap W'.heap) : Own W' base e size A n c xs := by
  obtain ⟨h1, h2⟩ := h
  refine ⟨h1, ?_⟩
  rcases h2 with h2 | ⟨q, cap, cur, hv', hq, hh, r'⟩
  · exact .inl h2
  · have hl : q < W.heap.size := by rcases Nat.lt_or_ge q W.heap.size with h | h; exact h; rw [Array.getElem?_eq_none h] at hh; cases hh
    have hne : q ≠ g := hA q (by injection hv')
    exact .inr ⟨q, cap, cur, hv', hq, by rw [hp q hne hl]; exact hh, r'⟩
theorem own_ne {W W' : World} {base b g : Nat} {e : TypeId} {size n c : Nat} {A : Option Addr} {xs : List Value} (h : Own W base e size A n c xs) (hA : ∀ q, A = some ⟨q, 0, none⟩ → q ≠ b ∧ q ≠ g) (hp : PBut g W.heap W'.heap) : Own W' base e size A n c xs ∧ ∀ q, A = some ⟨q, 0, none⟩ → q ≠ b ∧ q ≠ g := ⟨own_but h (fun q hq => (hA q hq).2) hp, hA⟩
theorem heap_other {W : World} {b g o : Nat} {u : Value} (hne : b ≠ g) : (W.setCell ⟨b, o, none⟩ u).heap[g]? = W.heap[g]? := by
  unfold World.setCell
  simp only [Array.getElem?_modify, if_neg hne]
theorem Box.other {W : World} {b g : Nat} {cs : Array Value} (h : Box W g cs) (o : Nat) (u : Value) (hne : b ≠ g) : Box (W.setCell ⟨b, o, none⟩ u) g cs := by
  refine ⟨by have := h.lt; simpa using this, fun j v hv => ?_, fun j => ?_⟩
  · rw [← h.eq j v hv]; exact World.cell?_of_block (heap_other hne)
  · rw [← h.fr j]; exact World.frozen?_of_block (heap_other hne)
theorem own_others {W : World} {B n c b size : Nat} {e : TypeId} {xs : List Value} {A : Option Addr} (h : Own W B e size A n c xs) (o : Nat) (u : Value) (hne : ∀ q, A = some ⟨q, 0, none⟩ → q ≠ b) : Own (W.setCell ⟨b, o, none⟩ u) B e size A n c xs :=
  own_other h u (fun g hg he => hne g hg he.symm)
theorem own2_ret {w W : World} {b1 b2 : Nat} {e1 e2 : TypeId} {s1 s2 n1 n2 c1 c2 : Nat} {A B : Option Addr} {xs ys : List Value} (hb : Bel w W) (h1 : Own W b1 e1 s1 A n1 c1 xs) (l1 : w.heap.size ≤ b1) (h2 : Own W b2 e2 s2 B n2 c2 ys) (l2 : w.heap.size ≤ b2) (ha : RowsApart A B) :
    ∃ x, W = ext w x ∧ Own (ext w x) w.heap.size e1 s1 A n1 c1 xs ∧ Own (ext w x) w.heap.size e2 s2 B n2 c2 ys ∧ RowsApart A B := by
  obtain ⟨x, rfl⟩ := ext_of hb
  exact ⟨x, rfl, h1.base_le l1, h2.base_le l2, ha⟩
section
variable {P : Program} {ops : Array Oper} {o : Oper} {a : Act} {K : Act → World → Prop} {Q : Exit → Act → World → Prop} {E : Prop}
/-- append of a row with an address onto an empty literal is as onto nothing -/
theorem run_append_lit {w : World} (t ty e : TypeId) (i : TypeInfo) (z : Value) (ht : P.underlying t = some (.slice e)) (hi : P.info? e = some i) (hz : i.zero = some z) (b ad : Addr) (m c : Nat) (news : List Value)
    (hl : news.length = m * i.size) (hnews : ∀ j v, news[j]? = some v → w.cell? (ad.add j) = some v) (hm : 0 < m) (h63 : (m : Int) ≤ 9223372036854775807) (hfit : Builtin.nextslicecap m 0 * i.bytes ≤ 281474976710656) :
    (Builtin.append_ #[t, t] ty #[.slice (some b) 0 0, .slice (some ad) m c]).run P w = .ok (.slice (some ⟨w.heap.size, 0, none⟩) m (grownCap w m 0 e)) (w.drew.alloc (.cells (news.toArray ++ Builtin.zeroCells z.cells (grownCap w m 0 e - m)) e)) := by
  have h := run_append_grow (P := P) w t ty e i z ht hi hz b 0 0 [] (by simp) (by simp) ad m c news hl hnews (by omega) (by omega) (by simpa using hfit)
  simpa using h
theorem stepg_append_fresh {t e : TypeId} {z : Value} {size bytes : Nat} (hT : SlT P t e z size bytes) {V W1 : World}
    {A1 : Option Addr} {m c' : Nat} {news : List Value} (hsrc : Sl W1 size A1 m c' news) (hb1 : Bel W1 V) (h1 : ∀ u ∈ news, u.oneCell' = true) (hnil : A1 = none → c' = 0) (hlen : m ≤ 1000000)
    (hw : Region.wanted o (yielded ops a.tmps) = true) (s x : Operand) (ho : o.op = .call { callee := .builtin .append, args := #[s, x], argTypes := #[t, t] }) {g : Nat}
    (hs : a.eval s = .slice (some ⟨g, 0, none⟩) 0 0) (hx : a.eval x = .slice A1 m c') (hL : NewLit V e g)
    (h : ∀ A' c'' y, Own (ext V y) g e size A' m c'' news → Lo A' g V.heap.size → K (a.put o.dst (.slice A' m c'')) (ext V y)) :
    if Region.wanted o (yielded ops a.tmps) = true then Oper.wp P o a V K Q else E := by
  obtain ⟨W, hV, hg⟩ := hL
  have hgv : g < V.heap.size := by have := hV.le; simp at this; omega
  rcases Nat.eq_zero_or_pos m with rfl | hm
  · have hn : news = [] := List.eq_nil_of_length_eq_zero (by simpa using hsrc.len)
    subst hn
    have hown : Own V g e size (some ⟨g, 0, none⟩) 0 0 [] := by
      subst hg
      have h0 : Own (W.alloc (.cells #[] e)) W.heap.size e size (some ⟨W.heap.size, 0, none⟩) 0 0 [] := World.ownsRow_lit W #[] 0 (Nat.le_refl _) (Nat.zero_le _) (by simp)
      exact h0.bel hV
    obtain ⟨i, hi, hz0, hz1, hz2⟩ := info_parts hT.info
    rw [if_pos hw]
    have hr : (Builtin.append_ #[t, t] o.type #[.slice (some ⟨g, 0, none⟩) 0 0, .slice A1 0 c']).run P V = .ok (.slice (some ⟨g, 0, none⟩) 0 0) V := by
      cases A1 with
      | none => obtain rfl := hnil rfl; simp [Builtin.append_, run_underlying hT.und, sizeOf, typeInfo, hi, Builtin.lenOf, Builtin.firstCells, storeCells]
      | some ad => simp [Builtin.append_, run_underlying hT.und, sizeOf, typeInfo, hi, Builtin.lenOf, Builtin.firstCells, storeCells, loadCells, loadCellsFrom]
    unfold Oper.wp execOp
    simp only [ho, resolve, invoke, builtin, Sem.run_bind, Sem.run_pure, Result.andThen_ok, List.map_toArray, List.map_cons, List.map_nil, hs, hx, hr]
    obtain ⟨y, hy⟩ := ext_of (Bel.refl V)
    have h' := h (some ⟨g, 0, none⟩) 0 y (by rw [← hy]; exact hown) (fun k hk => .inl (by injection hk with hk; injection hk with hk; omega))
    rw [← hy] at h'
    exact h'
  · obtain ⟨b, off, rfl, hbl⟩ := hsrc.at_ hm
    replace hsrc := hsrc.bel hb1
    obtain ⟨i, hi, hz0, hz1, hz2⟩ := info_parts hT.info
    rw [if_pos hw]
    have hnews : ∀ j v, news[j]? = some v → V.cell? ((⟨b, off, none⟩ : Addr).add j) = some v := by
      intro j u hu
      have hj := hsrc.cell hu
      unfold Addr.add
      split
      · rename_i h0; rw [h0] at hj; exact hj
      · exact hj
    have hby : m * bytes ≤ 140737488355328 := Nat.le_trans (Nat.mul_le_mul hlen hT.small) (by decide)
    have hr := run_append_lit (P := P) (w := V) t o.type e i z hT.und hi hz0 ⟨g, 0, none⟩ ⟨b, off, none⟩ m c' news (by rw [hz1]; exact hsrc.len) hnews hm (by omega) (growslice_fits hm (by rw [hz2]; exact hby))
    unfold Oper.wp execOp
    simp only [ho, resolve, invoke, builtin, Sem.run_bind, Sem.run_pure, Result.andThen_ok, List.map_toArray, List.map_cons, List.map_nil, hs, hx, hr]
    obtain ⟨y, hy⟩ := ext_of ((Bel.refl V).drew.alloc (.cells (news.toArray ++ Builtin.zeroCells z.cells (grownCap V m 0 e - m)) e))
    rw [hy]
    refine h _ _ _ ?_ (fun k hk => .inr (by injection hk with hk; injection hk with hk; omega))
    rw [← hy]
    have hge := grownCap_ge V m 0 e
    have hcm : grownCap V m 0 e ≤ maxLen := grownCap_le_maxLen V m 0 e (Nat.le_trans hlen (by unfold maxLen; decide))
    refine ⟨hsrc.len, .inr ⟨V.heap.size, _, _, rfl, by omega, heap_alloc_new V.drew _, hge, hcm, ?_, ?_⟩⟩
    · simp only [Array.size_append, List.size_toArray, size_zeroCells, hT.zs, hsrc.len, ← Nat.add_mul]
      congr 1
      omega
    · simp only [Array.toList_append]
      rw [← hsrc.len]
      exact List.take_left
theorem stepg_make {t e : TypeId} {z : Value} {size bytes : Nat} (hT : SlT P t e z size bytes) {V : World} {kl kc : IntKind} {k : Nat} (hlen : k ≤ 1000000)
    (hw : Region.wanted o (yielded ops a.tmps) = true) (l c : Operand) (ho : o.op = .makeSlice t l c) (hl : a.eval l = .int kl k) (hc : a.eval c = .int kc k)
    (h : ∀ cs : Array Value, cs.toList = (List.replicate k z.cells.toList).flatten → K (a.put o.dst (.slice (some ⟨V.heap.size, 0, none⟩) k k)) (V.alloc (.cells cs e))) :
    if Region.wanted o (yielded ops a.tmps) = true then Oper.wp P o a V K Q else E := by
  obtain ⟨i, hi, hz0, hz1, hz2⟩ := info_parts hT.info
  rw [if_pos hw]
  have hby : i.bytes * k ≤ 281474976710656 := by rw [hz2, Nat.mul_comm]; exact Nat.le_trans (Nat.mul_le_mul hlen hT.small) (by decide)
  have hby' : (i.bytes : Int) * (k : Int) ≤ 281474976710656 := by rw [← Int.natCast_mul]; omega
  have hr := run_make (P := P) V t e i z hT.und hi hz0 kl kc (k : Int) (k : Int) (by omega) (Int.le_refl _) hby' (by omega)
  unfold Oper.wp
  simp only [execOp, ho, hl, hc, Sem.run_bind, Sem.run_pure, hr, Result.andThen_ok, Int.toNat_natCast]
  refine h _ ?_
  rw [hz1, ← hT.zs]
  exact made_mul z.cells k (by rw [hT.zs]; exact hT.pos)
end
end Go

namespace Go.Proofs.Ytkcpnclgcmnlcaa
open Go.RowKit Go.Pel
set_option maxRecDepth 10000 in
set_option maxHeartbeats 4000000 in
theorem twin10_any (A B : Option Addr) (c d : Nat) (P W : List Int) (w : World) (hs : Sl w 1 A P.length c (vi P)) (ht : Sl w 1 B W.length d (vi W)) (hnA : A = none → c = 0) (hnB : B = none → d = 0) (hP : P.length ≤ 1000) (hW : W.length ≤ 1000) :
    Calls Try.prog 30 #[.agg #[.slice A P.length c, .slice B W.length d]] w fun e w' => ∃ A' c' B' d', e = .returned (.agg #[.slice A' P.length c', .slice B' W.length d']) ∧ ∃ x, w' = ext w x ∧ Own (ext w x) w.heap.size 3 1 A' P.length c' (vi P) ∧ Own (ext w x) w.heap.size 3 1 B' W.length d' (vi W) ∧ RowsApart A' B' := by
  go_enter Try.func30, Try.ntmps30
  go_wp2
  obtain ⟨V, hV⟩ : ∃ V, (w.alloc (.cells #[.slice A P.length c, .slice B W.length d] 47)).alloc (.cells #[.slice none 0 0, .slice none 0 0] 47) = V := ⟨_, rfl⟩
  have hb : Bel w V := by rw [← hV]; exact (by (try simp only [ext_ext]); repeat (first | exact Bel.refl _ | assumption | refine bel_and ?_ _ | refine bel_drews ?_ _ | refine Bel.ext ?_ _ | refine Bel.alloc ?_ _ | refine Bel.drewN ?_ _))
  have BB : Box V w.heap.size #[.slice A P.length c, .slice B W.length d] := Box.new (W := w) (e := 47) (by rw [← hV]; exact (by (try simp only [ext_ext]); repeat (first | exact Bel.refl _ | assumption | refine bel_and ?_ _ | refine bel_drews ?_ _ | refine Bel.ext ?_ _ | refine Bel.alloc ?_ _ | refine Bel.drewN ?_ _))) rfl
  have BR : Box V (w.heap.size + 1) #[.slice none 0 0, .slice none 0 0] := Box.new (W := w.alloc (.cells #[.slice A P.length c, .slice B W.length d] 47)) (e := 47) (by rw [← hV]; exact (by (try simp only [ext_ext]); repeat (first | exact Bel.refl _ | assumption | refine bel_and ?_ _ | refine bel_drews ?_ _ | refine Bel.ext ?_ _ | refine Bel.alloc ?_ _ | refine Bel.drewN ?_ _))) (by simp)
  rw [hV]
  obtain ⟨g, hg⟩ : ∃ g, w.heap.size + 1 = g := ⟨_, rfl⟩
  rw [hg] at BR ⊢
  have hgw : w.heap.size ≤ g := by omega
  have hgn : ¬ w.heap.size = g := by omega
  clear hV hg
  have xe0 := BB.eq 0 (.slice A P.length c) rfl
  have xe1 := BB.eq 1 (.slice B W.length d) rfl
  have xe2 := BR.eq 0 (.slice none 0 0) rfl
  have xe3 := BR.eq 1 (.slice none 0 0) rfl
  have xf2 := BR.fr 0
  have xf3 := BR.fr 1
  have SP := hs.bel hb
  have SW := ht.bel hb
  have xl0 := BB.lt
  have xl1 := BR.lt
  clear hs ht
  go_region_held3 (fun w' => w'.cell? ⟨w.heap.size, 0, none⟩ = some (.slice A P.length c) ∧ w'.cell? ⟨w.heap.size, 1, none⟩ = some (.slice B W.length d) ∧ (w'.cell? ⟨g, 0, none⟩).isSome = true ∧ (w'.cell? ⟨g, 1, none⟩).isSome = true ∧ w'.frozen? ⟨g, 0, none⟩ = false ∧ w'.frozen? ⟨g, 1, none⟩ = false) (simp [go_sem, *]) ((first
    | (refine stepg_append_fresh slt_ints (W1 := V) SP (by (try simp only [ext_ext]); repeat (first | exact Bel.refl _ | assumption | refine Bel.drew ?_ | refine bel_and ?_ _ | refine bel_drews ?_ _ | refine Bel.ext ?_ _ | refine Bel.alloc ?_ _ | refine Bel.drewN ?_ _)) (vi_one _) hnA (by omega) (by first | rfl | simp [Region.wanted, yielded]) _ _ rfl rfl rfl (by repeat (first | ((with_reducible refine NewLit.here ?_); first | (with_reducible rfl) | (simp [go_sem]; done)) | (with_reducible refine NewLit.alloc ?_) | (with_reducible refine NewLit.ext ?_) | (with_reducible refine NewLit.drew ?_))) ?_; rintro A1 c1 y1 own1 lo1)
    | (refine stepg_append_fresh slt_ints (W1 := V) SW (by (try simp only [ext_ext]); repeat (first | exact Bel.refl _ | assumption | refine Bel.drew ?_ | refine bel_and ?_ _ | refine bel_drews ?_ _ | refine Bel.ext ?_ _ | refine Bel.alloc ?_ _ | refine Bel.drewN ?_ _)) (vi_one _) hnB (by omega) (by first | rfl | simp [Region.wanted, yielded]) _ _ rfl rfl rfl (by repeat (first | ((with_reducible refine NewLit.here ?_); first | (with_reducible rfl) | (simp [go_sem]; done)) | (with_reducible refine NewLit.alloc ?_) | (with_reducible refine NewLit.ext ?_) | (with_reducible refine NewLit.drew ?_))) ?_; rintro A2 c2 y2 own2 lo2)))
  all_goals
    obtain ⟨V2, hV2⟩ : ∃ V2, (V.setCell ⟨g, 0, none⟩ (.slice A1 P.length c1)).setCell ⟨g, 1, none⟩ (.slice A2 W.length c2) = V2 := ⟨_, rfl⟩
    have hsz : V.heap.size = V2.heap.size := by rw [← hV2]; simp
    have hb2 : Bel w V2 := by rw [← hV2]; exact (hb.setCell (p := ⟨g, 0, none⟩) hgw _).setCell (p := ⟨g, 1, none⟩) hgw _
    have ye0 : V2.cell? ⟨g, 0, none⟩ = some (.slice A1 P.length c1) := by rw [← hV2]; simp [go_sem, xe2, xe3]
    have ye1 : V2.cell? ⟨g, 1, none⟩ = some (.slice A2 W.length c2) := by rw [← hV2]; simp [go_sem, xe2, xe3]
    have yl1 : g < V2.heap.size := by omega
    rw [hV2]
    have hap : RowsApart A1 A2 := by
      intro k e1 e2
      have a1 := lo1 k e1
      have a2 := lo2 k e2
      rw [e1] at own1
      rw [e2] at own2
      have t1 := own_lt own1
      have t2 := own_lt own2
      simp at a1 a2 t1 t2
      omega
    go_wp2
    refine bodyPost_ret (v := .agg #[.slice A1 P.length c1, .slice A2 W.length c2]) (by simp [results, Try.results30, go_sem, ye0, ye1, yl1, *]) rfl ?_
    exact ⟨A1, c1, A2, c2, rfl, own2_ret (Bel.trans hb2 (by (try simp only [ext_ext]); repeat (first | exact Bel.refl _ | assumption | refine Bel.drew ?_ | refine bel_and ?_ _ | refine bel_drews ?_ _ | refine Bel.ext ?_ _ | refine Bel.alloc ?_ _ | refine Bel.drewN ?_ _))) (own_move (V := V) (V' := V2) own1 (by repeat (first | (with_reducible exact Swp.refl hsz) | (with_reducible apply Swp.ext) | (with_reducible apply Swp.alloc) | (with_reducible apply Swp.drew))) (by unfold Pre; simp only [pheap_ext, pheap_drew, pheap_alloc, objs_and, objs_drewN, ← Array.append_assoc]; repeat (first | (with_reducible exact pre_refl _) | (with_reducible apply pre_append))) (by simp)) (by first | omega | (simp; omega)) (own_move (V := V) (V' := V2) own2 (by repeat (first | (with_reducible exact Swp.refl hsz) | (with_reducible apply Swp.ext) | (with_reducible apply Swp.alloc) | (with_reducible apply Swp.drew))) (by unfold Pre; simp only [pheap_ext, pheap_drew, pheap_alloc, objs_and, objs_drewN, ← Array.append_assoc]; repeat (first | (with_reducible exact pre_refl _) | (with_reducible apply pre_append))) (by first | omega | (simp; done) | (simp; omega))) (by first | omega | (simp; omega)) hap⟩
end Go.Proofs.Ytkcpnclgcmnlcaa

namespace Go.Pel
open Go Go.RowKit
/-- the wins below m are set, from the last one on -/
def fillB (l : List Pt) (n d : Int) (P : List Int) : Nat → List Int → List Int
  | 0, W => W
  | m + 1, W => fillB l n d P m (W.set m (wonV l n d (nodeV P W (2 * m + 1)) (nodeV P W (2 * m + 2))))
theorem fillB_len (l : List Pt) (n d : Int) (P : List Int) : ∀ (m : Nat) (W : List Int), (fillB l n d P m W).length = W.length
  | 0, _ => rfl
  | m + 1, W => by unfold fillB; rw [fillB_len l n d P m]; simp
/-- P10.1: the wins of the bracket with some places -/
def builtB (l : List Pt) (n d : Int) (P : List Int) : List Int := fillB l n d P (P.length - 1) (List.replicate (P.length - 1) 0)
theorem builtB_len (l : List Pt) (n d : Int) (P : List Int) : (builtB l n d P).length = P.length - 1 := by unfold builtB; rw [fillB_len]; simp
def brBuild (l : List Pt) (n d : Int) (P : List Int) : List Int × List Int × Int :=
  if timed l n d ≠ 0 then ([], [], timed l n d) else if P.length < 1 ∨ 64 < P.length then ([], [], 2) else if knownB l P = true then (if onceB P = true then (P, builtB l n d P, 0) else ([], [], 14)) else ([], [], 6)
theorem nodeV_set_ge {P W : List Int} {m j : Nat} {z : Int} (hm : m < W.length) (hj : m < j) : nodeV P (W.set m z) j = nodeV P W j := by
  unfold nodeV
  rw [List.length_set]
  split
  · rw [List.getD_eq_getElem?_getD, List.getD_eq_getElem?_getD, List.getElem?_set_ne (by omega)]
  · rfl
theorem nodeV_set_eq {P W : List Int} {m : Nat} {z : Int} (hm : m < W.length) : nodeV P (W.set m z) m = z := by
  unfold nodeV
  rw [List.length_set, if_pos hm, List.getD_eq_getElem?_getD, List.getElem?_set_self hm]; rfl
end Go.Pel
namespace Go.Proofs.Ytkcpnclgcmnlcaa
open Go.RowKit Go.Pel
theorem made_vi (k : Nat) (cs : Array Value) (h : cs.toList = (List.replicate k (Value.int .i64 0).cells.toList).flatten) : cs.toList = vi (List.replicate k 0) := by
  rw [h]; clear h
  induction k with
  | zero => rfl
  | succ k ih => rw [List.replicate_succ, List.flatten_cons, ih]; rfl
theorem make_ints (k : Nat) (hk : k ≤ 1000000) : ∃ cs : Array Value, cs.toList = vi (List.replicate k 0) ∧ ∀ V : World, (Instr.makeSlice 45 (.int .i64 k) (.int .i64 k)).run Try.prog V = .ok (.slice (some ⟨V.heap.size, 0, none⟩) k k) (V.alloc (.cells cs 3)) := by
  obtain ⟨i, hi, hz0, hz1, hz2⟩ := info_parts slt_ints.info
  refine ⟨madeCells (Value.int .i64 0).cells (k * i.size), ?_, fun V => ?_⟩
  rotate_left
  · have hr := run_make (P := Try.prog) V 45 3 i _ slt_ints.und hi hz0 .i64 .i64 (k : Int) (k : Int) (by omega) (Int.le_refl _) (by rw [hz2]; omega) (by omega)
    rw [Int.toNat_natCast] at hr
    exact hr
  · refine made_vi k _ ?_
    rw [hz1]
    exact made_mul _ k (by decide)
theorem own_list {W : World} {base : Nat} {e : TypeId} {size n c : Nat} {A : Option Addr} {xs ys : List Value} (h : Own W base e size A n c xs) (he : xs = ys) : Own W base e size A n c ys := he ▸ h
theorem box_pre {W W' : World} {cs : Array Value} {e : TypeId} (hp : Pre (W.alloc (.cells cs e)) W') {b : Nat} (hb : b = W.heap.size) : Box W' b cs := by
  subst hb
  obtain ⟨r, hr⟩ := hp
  have hl : W.heap.size < (W.alloc (.cells cs e)).heap.size := by simp
  have h : Box (W.alloc (.cells cs e)) W.heap.size cs := ⟨hl, fun j v hv => by simp [go_sem, hv], fun j => by simp [go_sem]⟩
  have hh : W'.heap[W.heap.size]? = (W.alloc (.cells cs e)).heap[W.heap.size]? := by rw [hr, Array.getElem?_append_left hl]
  refine ⟨by rw [hr, Array.size_append]; omega, fun j v hv => ?_, fun j => ?_⟩
  · rw [← h.eq j v hv]; exact World.cell?_of_block hh
  · rw [← h.fr j]; exact World.frozen?_of_block hh
theorem own_row_pre {W W' : World} {base : Nat} {cs : Array Value} {e : TypeId} {size n : Nat} (hp : Pre (W.alloc (.cells cs e)) W') {b : Nat} (hbk : b = W.heap.size) (hb : base ≤ b) (hn : n ≤ 1000000) (hs : cs.size = n * size) : Own W' base e size (some ⟨b, 0, none⟩) n n cs.toList := by
  subst hbk
  have h : Own (W.alloc (.cells cs e)) base e size (some ⟨W.heap.size, 0, none⟩) n n cs.toList := World.ownsRow_lit W cs n hb (Nat.le_trans hn (by unfold maxLen; decide)) hs
  exact own_pre h hp
theorem nodeK {F k : Nat} {A1 B1 : Option Addr} {m c1 d1 : Nat} {Wm : List Int} {i : Int} {W' : World} {Q : Ending → World → Prop} (h : Calls Try.prog F #[.agg #[.slice A1 m c1, .slice B1 Wm.length d1], .int .i64 i] W' Q) (hk : Wm.length = k) : Calls Try.prog F #[.agg #[.slice A1 m c1, .slice B1 k d1], .int .i64 i] W' Q := hk ▸ h
set_option maxRecDepth 10000 in
set_option maxHeartbeats 4000000 in
theorem built_any (A F : Option Addr) (c cf : Nat) (P : List Int) (l : List Pt) (n m : Int) (w : World) (hn : -9223372036854775808 ≤ n ∧ n ≤ 9223372036854775807) (hd : -9223372036854775808 ≤ m ∧ m ≤ 9223372036854775807) (hs : Sl w 1 A P.length c (vi P)) (hnA : A = none → c = 0) (hsf : Sl w 3 F l.length cf (vp l)) (hl : l.length ≤ 1000000) (hP1 : 1 ≤ P.length) (hP : P.length ≤ 1000) (htm : timed l n m = 0) (hk : knownB l P = true) :
    Calls Try.prog 82 #[.agg #[.slice F l.length cf], .agg #[.int .i64 n, .int .i64 m], .slice A P.length c] w fun e w' => ∃ A' c' B' d', e = .returned (.agg #[.slice A' P.length c', .slice B' (builtB l n m P).length d']) ∧ ∃ x, w' = ext w x ∧ Own (ext w x) w.heap.size 3 1 A' P.length c' (vi P) ∧ Own (ext w x) w.heap.size 3 1 B' (builtB l n m P).length d' (vi (builtB l n m P)) ∧ RowsApart A' B' := by
  have hRl := builtB_len l n m P
  obtain ⟨R, hR⟩ : ∃ R, builtB l n m P = R := ⟨_, rfl⟩
  rw [hR] at hRl ⊢
  have HR := Lib.hid hR
  clear hR
  obtain ⟨k, hkP⟩ : ∃ k, P.length = k + 1 := ⟨P.length - 1, by omega⟩
  have e1 : IntKind.i64.wrap ((P.length : Int) - 1) = (k : Int) := by rw [IntWalk.i64_in _ (by omega)]; omega
  obtain ⟨cs, hcs, hmk⟩ := make_ints k (by omega)
  have hHcs := Lib.hid hcs
  have hcsz : cs.size = k * 1 := by have := congrArg List.length hcs; simpa [vi] using this
  have HkP := Lib.hid hkP
  replace hRl : R.length = k := by omega
  have HRl := Lib.hid hRl
  rw [hRl]
  have HK := Lib.hid (fun x hx => known_ok hk (x := x) hx)
  have q3 := Lib.hid (fun W' (A1 B1 : Option Addr) (c1 d1 : Nat) (Wm : List Int) (h1 : Sl W' 1 A1 P.length c1 (vi P)) (h2 : Sl W' 1 B1 Wm.length d1 (vi Wm)) (hWm : Wm.length = k) i j v hj hv hi => rnode_int A1 B1 c1 d1 P Wm i j v hj hv W' h1 h2 hP (by omega) hi)
  have q7 := Lib.hid (fun W' hb x y z hz hx hy => rwon_lit F cf l n m x y z hz W' hn hd (hsf.bel (w' := W') hb) htm hx hy)
  have hk6 : k ≤ 1000000 := by omega
  have hPl : P.length ≤ 1000000 := by omega
  clear hcs hkP hRl hk htm hn hd hsf
  go_enter Try.func82, Try.ntmps82
  go_wp2
  obtain ⟨V, hV⟩ : ∃ V, ((w.alloc (.cells #[.slice F l.length cf] 24)).alloc (.cells #[.int .i64 n, .int .i64 m] 49)).alloc (.cells #[.slice none 0 0, .slice none 0 0] 47) = V := ⟨_, rfl⟩
  have hb : Bel w V := by rw [← hV]; exact (by (try simp only [ext_ext]); repeat (first | exact Bel.refl _ | assumption | refine bel_and ?_ _ | refine bel_drews ?_ _ | refine Bel.ext ?_ _ | refine Bel.alloc ?_ _ | refine Bel.drewN ?_ _))
  have BF : Box V w.heap.size #[.slice F l.length cf] := Box.new (W := w) (e := 24) (by rw [← hV]; exact (by (try simp only [ext_ext]); repeat (first | exact Bel.refl _ | assumption | refine bel_and ?_ _ | refine bel_drews ?_ _ | refine Bel.ext ?_ _ | refine Bel.alloc ?_ _ | refine Bel.drewN ?_ _))) rfl
  have BT : Box V (w.heap.size + 1) #[.int .i64 n, .int .i64 m] := Box.new (W := w.alloc (.cells #[.slice F l.length cf] 24)) (e := 49) (by rw [← hV]; exact (by (try simp only [ext_ext]); repeat (first | exact Bel.refl _ | assumption | refine bel_and ?_ _ | refine bel_drews ?_ _ | refine Bel.ext ?_ _ | refine Bel.alloc ?_ _ | refine Bel.drewN ?_ _))) (by simp)
  have BR : Box V (w.heap.size + 2) #[.slice none 0 0, .slice none 0 0] := Box.new (W := (w.alloc (.cells #[.slice F l.length cf] 24)).alloc (.cells #[.int .i64 n, .int .i64 m] 49)) (e := 47) (by rw [← hV]; exact (by (try simp only [ext_ext]); repeat (first | exact Bel.refl _ | assumption | refine bel_and ?_ _ | refine bel_drews ?_ _ | refine Bel.ext ?_ _ | refine Bel.alloc ?_ _ | refine Bel.drewN ?_ _))) (by simp)
  rw [hV]
  obtain ⟨gt, hgt⟩ : ∃ g, w.heap.size + 1 = g := ⟨_, rfl⟩
  obtain ⟨gr, hgr⟩ : ∃ g, w.heap.size + 2 = g := ⟨_, rfl⟩
  rw [hgr] at BR
  rw [hgt] at BT
  (try rw [show w.heap.size + 1 + 1 = gr by omega])
  (try rw [hgr])
  rw [hgt]
  have hgw : w.heap.size ≤ gr := by omega
  clear hV
  have SP := hs.bel hb
  go_cut [7] (fun s7 wx => ∃ (g b c1 : Nat) (A1 : Option Addr), s7 = .pointer (some ⟨g, 0, none⟩) ∧ V.heap.size ≤ g ∧ V.heap.size ≤ b ∧ Bel V wx ∧ Box wx g #[.slice A1 P.length c1, .slice (some ⟨b, 0, none⟩) k k] ∧ (Own wx V.heap.size 3 1 A1 P.length c1 (vi P) ∧ ∀ q, A1 = some ⟨q, 0, none⟩ → q ≠ b ∧ q ≠ g) ∧ Own wx V.heap.size 3 1 (some ⟨b, 0, none⟩) k k (vi (List.replicate k 0)) ∧ b ≠ g)
  case first =>
    go_region_held3 (fun _ => True) (trivial) ((first
      | (refine stepg_append_fresh slt_ints (W1 := V) SP (by (try simp only [ext_ext]); repeat (first | exact Bel.refl _ | assumption | refine Bel.drew ?_ | refine bel_and ?_ _ | refine bel_drews ?_ _ | refine Bel.ext ?_ _ | refine Bel.alloc ?_ _ | refine Bel.drewN ?_ _)) (vi_one _) hnA (by omega) (by first | rfl | simp [Region.wanted, yielded]) _ _ rfl rfl rfl (by repeat (first | ((with_reducible refine NewLit.here ?_); first | (with_reducible rfl) | (simp [go_sem]; done)) | (with_reducible refine NewLit.alloc ?_) | (with_reducible refine NewLit.ext ?_) | (with_reducible refine NewLit.drew ?_))) ?_; rintro A1 c1 y1 own1 lo1)))
    all_goals
      go_wp2_with fail
      go_meet
      refine ⟨_, _, c1, A1, rfl, ?_, ?_, (by (try simp only [ext_ext]); repeat (first | exact Bel.refl _ | assumption | refine Bel.drew ?_ | refine bel_and ?_ _ | refine bel_drews ?_ _ | refine Bel.ext ?_ _ | refine Bel.alloc ?_ _ | refine Bel.drewN ?_ _)), (by repeat (first | ((with_reducible refine Box.here ?_); first | (with_reducible rfl) | (simp [go_sem]; done)) | (with_reducible refine Box.alloc ?_) | (with_reducible refine Box.ext ?_) | (with_reducible refine Box.drew ?_))), own_ne (own1.base_le ?_) ?_ (by simp only [pheap_ext, pheap_drew, pheap_alloc, objs_and, objs_drewN, ← Array.append_assoc]; repeat (first | ((with_reducible refine PBut.same ?_); (repeat (first | (with_reducible exact PSame.refl _ _) | (with_reducible apply PSame.both) | (refine PSame.swap ?_ (by first | (with_reducible rfl) | (simp [Beyond.len]; done) | (simp [Beyond.len]; omega))))); done) | (with_reducible apply PBut.right))), own_list (xs := cs.toList) ?hown hHcs.out, ?_⟩
      case hown => exact (by repeat (first | ((with_reducible refine Own.here (by first | (with_reducible rfl) | (simp [go_sem]; done)) (by first | omega | (simp; done) | (simp; omega)) ?_ ?_); omega; exact hcsz) | (with_reducible refine Own.alloc' ?_) | (with_reducible refine Own.ext' ?_) | (with_reducible refine Own.drew' ?_)))
      any_goals (first | omega | (simp; done) | (simp; omega))
      all_goals
        intro q hq
        have a1 := lo1 q hq
        rw [hq] at own1
        have t1 := own_lt own1
        simp at a1 t1
        (first | omega | (constructor <;> omega))
  obtain ⟨g, b, c1, A1, rfl, hg, hbb, hx, BX, ⟨OP, hA1⟩, OW, hbg⟩ := hcut
  obtain ⟨V1, rfl⟩ : ∃ W, W = wc := ⟨_, rfl⟩
  have e2 : IntKind.i64.wrap ((k : Int) - 1) = (k : Int) - 1 := IntWalk.i64_in _ (by omega)
  have xs0 := BX.eq 1 (.slice (some ⟨b, 0, none⟩) k k) rfl
  have xs1 := BX.lt
  go_wp2
  go_loopw [8] (fun i wr => ∃ (q : Nat) (Wm : List Int), q ≤ k ∧ Wm.length = k ∧ i = .int .i64 ((q : Int) - 1) ∧ fillB l n m P q Wm = R ∧ (∀ j, q ≤ j → j < k + P.length → Ok l (nodeV P Wm j)) ∧ Bel V wr ∧ Box wr g #[.slice A1 P.length c1, .slice (some ⟨b, 0, none⟩) k k] ∧ Own wr V.heap.size 3 1 A1 P.length c1 (vi P) ∧ Own wr V.heap.size 3 1 (some ⟨b, 0, none⟩) k k (vi Wm)) (fun i _ => (intOf i + 1).toNat)
  case atStart =>
    refine ⟨k, List.replicate k 0, Nat.le_refl _, by simp, rfl, ?_, ?_, hx, BX, OP, OW⟩
    · rw [← HR.out]; unfold builtB; rw [HkP.out]; rfl
    · intro j hj hj2
      refine HK.out _ ?_
      unfold nodeV
      rw [List.length_replicate, if_neg (by omega), List.getD_eq_getElem?_getD, List.getElem?_eq_getElem (by omega)]
      exact List.getElem_mem _
  case round =>
    obtain ⟨q, Wm, hq, hWl, rfl, hfill, hok, hB, BX', OP', OW'⟩ := hrel
    clear BX OP OW hx xs0 xs1
    have BF' := BF.bel hB
    have BT' := BT.bel hB
    have BR' := BR.bel hB
    have hb' := hb.trans hB
    cases q with
    | zero =>
      have HF := Lib.hid (show Wm = R from hfill)
      clear hfill hok
      have z1 : decide ((0 : Int) ≤ ((0 : Nat) : Int) - 1) = false := by decide
      have xe0 := BX'.eq 0 (.slice A1 P.length c1) rfl
      have xe1 := BX'.eq 1 (.slice (some ⟨b, 0, none⟩) k k) rfl
      have xr0 := BR'.eq 0 (.slice none 0 0) rfl
      have xr1 := BR'.eq 1 (.slice none 0 0) rfl
      have xf0 := BR'.fr 0
      have xf1 := BR'.fr 1
      have xl0 := BX'.lt
      have xl1 := BR'.lt
      go_wp2
      refine bodyPost_ret (v := .agg #[.slice A1 P.length c1, .slice (some ⟨b, 0, none⟩) k k]) (by simp [results, Try.results82, go_sem, xl0, xl1, xr0, xr1]) rfl ?_
      have hgrV : gr < V.heap.size := BR.lt
      have t1 := own_others (own_others OP' (b := gr) 0 (.slice A1 P.length c1) (fun q hq => by rw [hq] at OP'; have := own_ge OP'; omega)) (b := gr) 1 (.slice (some ⟨b, 0, none⟩) k k) (fun q hq => by rw [hq] at OP'; have := own_ge OP'; omega)
      have t2 := own_others (own_others OW' (b := gr) 0 (.slice A1 P.length c1) (fun q hq => by injection hq with hq; injection hq with hq; omega)) (b := gr) 1 (.slice (some ⟨b, 0, none⟩) k k) (fun q hq => by injection hq with hq; injection hq with hq; omega)
      rw [HF.out] at t2
      exact ⟨A1, c1, some ⟨b, 0, none⟩, k, rfl, own2_ret ((hb'.setCell (p := ⟨gr, 0, none⟩) hgw _).setCell (p := ⟨gr, 1, none⟩) hgw _) t1 hb.le t2 hb.le (fun q h1 h2 => by injection h2 with h2; injection h2 with h2; exact (hA1 q h1).1 h2.symm)⟩
    | succ j =>
      obtain ⟨x, hx⟩ : ∃ x, nodeV P Wm (2 * j + 1) = x := ⟨_, rfl⟩
      obtain ⟨y, hy⟩ : ∃ y, nodeV P Wm (2 * j + 2) = y := ⟨_, rfl⟩
      obtain ⟨z, hz⟩ : ∃ z, wonV l n m x y = z := ⟨_, rfl⟩
      have hPk := HkP.out
      have okx : Ok l x := hx ▸ hok (2 * j + 1) (by omega) (by omega)
      have oky : Ok l y := hy ▸ hok (2 * j + 2) (by omega) (by omega)
      have q4 := Lib.hid (fun W' hb1 => (nodeK (q3.out W' A1 (some ⟨b, 0, none⟩) c1 k Wm (OP'.sl.bel (w' := W') hb1) (by rw [hWl]; exact OW'.sl.bel hb1) hWl (2 * j + 1) (2 * (j : Int) + 1) x (by omega) hx (by omega)) hWl))
      have q5 := Lib.hid (fun W' hb1 => (nodeK (q3.out W' A1 (some ⟨b, 0, none⟩) c1 k Wm (OP'.sl.bel (w' := W') hb1) (by rw [hWl]; exact OW'.sl.bel hb1) hWl (2 * j + 2) (2 * (j : Int) + 2) y (by omega) hy (by omega)) hWl))
      have q6 := Lib.hid (fun W' hb1 => q7.out W' (hb'.trans hb1) x y z hz okx oky)
      have HF := Lib.hid (show fillB l n m P j (Wm.set j z) = R by rw [← hfill, ← hz, ← hx, ← hy]; rfl)
      have HOK := Lib.hid (show ∀ i, j ≤ i → i < k + P.length → Ok l (nodeV P (Wm.set j z) i) from fun i hi hi2 => by
        rcases Nat.eq_or_lt_of_le hi with rfl | hlt
        · rw [nodeV_set_eq (by omega)]; exact hz ▸ won_ok okx oky
        · rw [nodeV_set_ge (by omega) hlt]; exact hok i hlt hi2)
      have HWl := Lib.hid hWl
      obtain ⟨u, hu⟩ : ∃ u, (vi Wm)[j]? = some u := ⟨_, List.getElem?_eq_getElem (by simp [vi]; omega)⟩
      have ej : (((j + 1 : Nat) : Int) - 1) = (j : Int) := by omega
      rw [ej]
      have z1 : decide ((0 : Int) ≤ (j : Int)) = true := by rw [decide_eq_true_eq]; omega
      have hj2 : (j : Int) < (k : Int) := by omega
      have e3 : IntKind.i64.wrap (2 * (j : Int)) = 2 * (j : Int) := IntWalk.i64_in _ (by omega)
      have e4 : IntKind.i64.wrap (2 * (j : Int) + 1) = 2 * (j : Int) + 1 := IntWalk.i64_in _ (by omega)
      have e5 : IntKind.i64.wrap (2 * (j : Int) + 2) = 2 * (j : Int) + 2 := IntWalk.i64_in _ (by omega)
      have e6 : IntKind.i64.wrap ((j : Int) - 1) = (j : Int) - 1 := IntWalk.i64_in _ (by omega)
      have xe0 := BX'.eq 0 (.slice A1 P.length c1) rfl
      have xe1 := BX'.eq 1 (.slice (some ⟨b, 0, none⟩) k k) rfl
      have xe2 := BF'.eq 0 (.slice F l.length cf) rfl
      have xe3 := BT'.eq 0 (.int .i64 n) rfl
      have xe4 := BT'.eq 1 (.int .i64 m) rfl
      have xl0 := BX'.lt
      have xl1 := BF'.lt
      have xl2 := BT'.lt
      clear hfill hok hx hy hz okx oky ej hPk hWl
      go_wp2
      ((first | refine RegC.wp_region_tail1 17 (by kernel_rfl) (by kernel_rfl) ?_ | refine RegC.wp_region_tail0 17 (by kernel_rfl) (by kernel_rfl) ?_); simp only [List.take_succ_cons, List.take_zero, List.drop_succ_cons, List.drop_zero]; (repeat (any_goals (first | go_big_quiet_step (first | (go_at_call 83; with_reducible first | exact Calls.ext_of1 (q4.out _ (by (try simp only [ext_ext]); repeat (first | exact Bel.refl _ | assumption | refine bel_and ?_ _ | refine bel_drews ?_ _ | refine Bel.ext ?_ _ | refine Bel.alloc ?_ _ | refine Bel.drewN ?_ _))) | exact Calls.ext_of (q4.out _ (by (try simp only [ext_ext]); repeat (first | exact Bel.refl _ | assumption | refine bel_and ?_ _ | refine bel_drews ?_ _ | refine Bel.ext ?_ _ | refine Bel.alloc ?_ _ | refine Bel.drewN ?_ _))) | exact Calls.ext_of1 (q5.out _ (by (try simp only [ext_ext]); repeat (first | exact Bel.refl _ | assumption | refine bel_and ?_ _ | refine bel_drews ?_ _ | refine Bel.ext ?_ _ | refine Bel.alloc ?_ _ | refine Bel.drewN ?_ _))) | exact Calls.ext_of (q5.out _ (by (try simp only [ext_ext]); repeat (first | exact Bel.refl _ | assumption | refine bel_and ?_ _ | refine bel_drews ?_ _ | refine Bel.ext ?_ _ | refine Bel.alloc ?_ _ | refine Bel.drewN ?_ _)))) | (go_at_call 107; with_reducible first | exact Calls.ext_of1 (q6.out _ (by (try simp only [ext_ext]); repeat (first | exact Bel.refl _ | assumption | refine bel_and ?_ _ | refine bel_drews ?_ _ | refine Bel.ext ?_ _ | refine Bel.alloc ?_ _ | refine Bel.drewN ?_ _))) | exact Calls.ext_of (q6.out _ (by (try simp only [ext_ext]); repeat (first | exact Bel.refl _ | assumption | refine bel_and ?_ _ | refine bel_drews ?_ _ | refine Bel.ext ?_ _ | refine Bel.alloc ?_ _ | refine Bel.drewN ?_ _))))) | (refine RegC.wpQuiet_split rfl rfl (fun hb => ?_) (fun hb => ?_) <;> simp only [hb])))); all_goals (refine wpQuiet_nil ?_; rintro W2 hq))
      replace hq := bel_of hq
      have OW2 := OW'.bel hq
      have OP2 := OP'.bel hq
      have BX2 := BX'.bel hq
      have w0 := own_cell OW2 hu
      have w1 := own_frozen OW2 j
      go_wp2
      go_roundw
      case rel =>
        have t1 := own_others OP2 (b := b) j (.int .i64 z) (fun q hq => (hA1 q hq).1)
        have t2 := (World.ownsRow.stored OW2 j (.int .i64 z)).1
        rw [← vi_set] at t2
        exact ⟨j, Wm.set j z, by omega, by rw [List.length_set]; exact HWl.out, rfl, HF.out, HOK.out, (hB.trans hq).setCell (p := ⟨b, j, none⟩) hbb _, BX2.other j _ hbg, t1, t2⟩
      case measure => (first | (simp [intOf]; done) | (simp [intOf]; omega))
end Go.Proofs.Ytkcpnclgcmnlcaa

namespace Go.Proofs.Ytkcpnclgcmnlcaa
open Go.RowKit Go.Pel
theorem nil2_ret {w W : World} (hb : Bel w W) {e1 e2 : TypeId} {s1 s2 B1 B2 : Nat} : ∃ x, W = ext w x ∧ Own (ext w x) B1 e1 s1 none 0 0 [] ∧ Own (ext w x) B2 e2 s2 none 0 0 [] ∧ RowsApart none none := by
  obtain ⟨x, hx⟩ := ext_of hb
  exact ⟨x, hx, Own.nil_ _ _ _ _, Own.nil_ _ _ _ _, fun k h => by cases h⟩
set_option maxRecDepth 10000 in
set_option maxHeartbeats 4000000 in
theorem rbuild_any (A F : Option Addr) (c cf : Nat) (P : List Int) (l : List Pt) (n m : Int) (w : World) (hn : -9223372036854775808 ≤ n ∧ n ≤ 9223372036854775807) (hd : -9223372036854775808 ≤ m ∧ m ≤ 9223372036854775807) (hs : Sl w 1 A P.length c (vi P)) (hnA : A = none → c = 0) (hsf : Sl w 3 F l.length cf (vp l)) (hl : l.length ≤ 1000000) (hP : P.length ≤ 1000) :
    Calls Try.prog 36 #[.agg #[.slice F l.length cf], .agg #[.int .i64 n, .int .i64 m], .slice A P.length c] w fun e w' => ∃ A' c' B' d', e = .returned (.tuple #[.agg #[.slice A' (brBuild l n m P).1.length c', .slice B' (brBuild l n m P).2.1.length d'], .int .i64 (brBuild l n m P).2.2]) ∧ ∃ x, w' = ext w x ∧ Own (ext w x) w.heap.size 3 1 A' (brBuild l n m P).1.length c' (vi (brBuild l n m P).1) ∧ Own (ext w x) w.heap.size 3 1 B' (brBuild l n m P).2.1.length d' (vi (brBuild l n m P).2.1) ∧ RowsApart A' B' := by
  have q1 := Lib.hid (fun V hb => timed_any F cf l n m V hn hd (hsf.bel (w' := V) hb) hl)
  by_cases htm : timed l n m = 0
  case neg =>
    obtain ⟨v, hv⟩ : ∃ v, timed l n m = v := ⟨_, rfl⟩
    have HF : Hid (brBuild l n m P = ([], [], v)) := Lib.hid (by unfold brBuild; rw [if_pos htm, hv])
    rw [hv] at q1 htm
    have z1 : (v != 0) = true := by simpa using htm
    rw [HF.out]
    clear hs hsf hl hP hn hd hv htm hnA
    go_enter Try.func36, Try.ntmps36
    go_wp2_with ((go_at_call 45; (with_reducible refine (q1.out _ (by (try simp only [ext_ext]); repeat (first | exact Bel.refl _ | assumption | refine bel_and ?_ _ | refine bel_drews ?_ _ | refine Bel.ext ?_ _ | refine Bel.alloc ?_ _ | refine Bel.drewN ?_ _))).mono ?_); rintro e _ ⟨rfl, nx, rfl⟩))
    refine bodyPost_ret (v := .tuple #[.agg #[.slice none 0 0, .slice none 0 0], .int .i64 (v)]) (by simp [results, Try.results36, go_sem]) rfl ?_
    exact ⟨none, 0, none, 0, rfl, nil2_ret (by (try simp only [ext_ext]); repeat (first | exact Bel.refl _ | assumption | refine bel_and ?_ _ | refine bel_drews ?_ _ | refine Bel.ext ?_ _ | refine Bel.alloc ?_ _ | refine Bel.drewN ?_ _))⟩

  rw [htm] at q1
  by_cases hlen : P.length < 1 ∨ 64 < P.length
  case pos =>
    have HF : Hid (brBuild l n m P = ([], [], 2)) := Lib.hid (by unfold brBuild; rw [if_neg (by simpa using htm), if_pos hlen])
    by_cases h1 : P.length < 1
    · have z1 : decide ((P.length : Int) < 1) = true := by rw [decide_eq_true_eq]; omega
      rw [HF.out]
      clear hs hsf hl hP hn hd htm hnA hlen h1
      go_enter Try.func36, Try.ntmps36
      go_wp2_with ((go_at_call 45; (with_reducible refine (q1.out _ (by (try simp only [ext_ext]); repeat (first | exact Bel.refl _ | assumption | refine bel_and ?_ _ | refine bel_drews ?_ _ | refine Bel.ext ?_ _ | refine Bel.alloc ?_ _ | refine Bel.drewN ?_ _))).mono ?_); rintro e _ ⟨rfl, nx, rfl⟩))
      refine bodyPost_ret (v := .tuple #[.agg #[.slice none 0 0, .slice none 0 0], .int .i64 (2)]) (by simp [results, Try.results36, go_sem]) rfl ?_
      exact ⟨none, 0, none, 0, rfl, nil2_ret (by (try simp only [ext_ext]); repeat (first | exact Bel.refl _ | assumption | refine bel_and ?_ _ | refine bel_drews ?_ _ | refine Bel.ext ?_ _ | refine Bel.alloc ?_ _ | refine Bel.drewN ?_ _))⟩
  
    · have z1 : decide ((P.length : Int) < 1) = false := by rw [decide_eq_false_iff_not]; omega
      have z2 : decide ((64 : Int) < (P.length : Int)) = true := by rw [decide_eq_true_eq]; omega
      rw [HF.out]
      clear hs hsf hl hP hn hd htm hnA hlen h1
      go_enter Try.func36, Try.ntmps36
      go_wp2_with ((go_at_call 45; (with_reducible refine (q1.out _ (by (try simp only [ext_ext]); repeat (first | exact Bel.refl _ | assumption | refine bel_and ?_ _ | refine bel_drews ?_ _ | refine Bel.ext ?_ _ | refine Bel.alloc ?_ _ | refine Bel.drewN ?_ _))).mono ?_); rintro e _ ⟨rfl, nx, rfl⟩))
      refine bodyPost_ret (v := .tuple #[.agg #[.slice none 0 0, .slice none 0 0], .int .i64 (2)]) (by simp [results, Try.results36, go_sem]) rfl ?_
      exact ⟨none, 0, none, 0, rfl, nil2_ret (by (try simp only [ext_ext]); repeat (first | exact Bel.refl _ | assumption | refine bel_and ?_ _ | refine bel_drews ?_ _ | refine Bel.ext ?_ _ | refine Bel.alloc ?_ _ | refine Bel.drewN ?_ _))⟩
  
  have z1 : decide ((P.length : Int) < 1) = false := by rw [decide_eq_false_iff_not]; omega
  have z2 : decide ((64 : Int) < (P.length : Int)) = false := by rw [decide_eq_false_iff_not]; omega
  have q2 := Lib.hid (fun V hb => rknown_any F A cf c l P V (hsf.bel (w' := V) hb) (hs.bel hb) hl (by omega))
  have q3 := Lib.hid (fun V hb => twice_any A c P V (hs.bel (w' := V) hb) (by omega))
  cases hk : knownB l P with
  | false =>
    have HF : Hid (brBuild l n m P = ([], [], 6)) := Lib.hid (by unfold brBuild; rw [if_neg (by simpa using htm), if_neg hlen, hk]; rfl)
    rw [hk] at q2
    rw [HF.out]
    clear hs hsf hl hP hn hd htm hnA hlen hk
    go_enter Try.func36, Try.ntmps36
    go_wp2_with (first | (go_at_call 45; (with_reducible refine (q1.out _ (by (try simp only [ext_ext]); repeat (first | exact Bel.refl _ | assumption | refine bel_and ?_ _ | refine bel_drews ?_ _ | refine Bel.ext ?_ _ | refine Bel.alloc ?_ _ | refine Bel.drewN ?_ _))).mono ?_); rintro e _ ⟨rfl, nx, rfl⟩) | (go_at_call 59; (with_reducible refine (q2.out _ (by (try simp only [ext_ext]); repeat (first | exact Bel.refl _ | assumption | refine bel_and ?_ _ | refine bel_drews ?_ _ | refine Bel.ext ?_ _ | refine Bel.alloc ?_ _ | refine Bel.drewN ?_ _))).mono ?_); rintro e _ ⟨rfl, nx, rfl⟩) | (go_at_call 60; (with_reducible refine (q3.out _ (by (try simp only [ext_ext]); repeat (first | exact Bel.refl _ | assumption | refine bel_and ?_ _ | refine bel_drews ?_ _ | refine Bel.ext ?_ _ | refine Bel.alloc ?_ _ | refine Bel.drewN ?_ _))).mono ?_); rintro e _ ⟨rfl, nx, rfl⟩))
    refine bodyPost_ret (v := .tuple #[.agg #[.slice none 0 0, .slice none 0 0], .int .i64 (6)]) (by simp [results, Try.results36, go_sem]) rfl ?_
    exact ⟨none, 0, none, 0, rfl, nil2_ret (by (try simp only [ext_ext]); repeat (first | exact Bel.refl _ | assumption | refine bel_and ?_ _ | refine bel_drews ?_ _ | refine Bel.ext ?_ _ | refine Bel.alloc ?_ _ | refine Bel.drewN ?_ _))⟩
  | true =>
  rw [hk] at q2
  cases ho : onceB P with
  | false =>
    have HF : Hid (brBuild l n m P = ([], [], 14)) := Lib.hid (by unfold brBuild; rw [if_neg (by simpa using htm), if_neg hlen, hk, ho]; rfl)
    rw [ho] at q3
    rw [HF.out]
    clear hs hsf hl hP hn hd htm hnA hlen hk ho
    go_enter Try.func36, Try.ntmps36
    go_wp2_with (first | (go_at_call 45; (with_reducible refine (q1.out _ (by (try simp only [ext_ext]); repeat (first | exact Bel.refl _ | assumption | refine bel_and ?_ _ | refine bel_drews ?_ _ | refine Bel.ext ?_ _ | refine Bel.alloc ?_ _ | refine Bel.drewN ?_ _))).mono ?_); rintro e _ ⟨rfl, nx, rfl⟩) | (go_at_call 59; (with_reducible refine (q2.out _ (by (try simp only [ext_ext]); repeat (first | exact Bel.refl _ | assumption | refine bel_and ?_ _ | refine bel_drews ?_ _ | refine Bel.ext ?_ _ | refine Bel.alloc ?_ _ | refine Bel.drewN ?_ _))).mono ?_); rintro e _ ⟨rfl, nx, rfl⟩) | (go_at_call 60; (with_reducible refine (q3.out _ (by (try simp only [ext_ext]); repeat (first | exact Bel.refl _ | assumption | refine bel_and ?_ _ | refine bel_drews ?_ _ | refine Bel.ext ?_ _ | refine Bel.alloc ?_ _ | refine Bel.drewN ?_ _))).mono ?_); rintro e _ ⟨rfl, nx, rfl⟩))
    refine bodyPost_ret (v := .tuple #[.agg #[.slice none 0 0, .slice none 0 0], .int .i64 (14)]) (by simp [results, Try.results36, go_sem]) rfl ?_
    exact ⟨none, 0, none, 0, rfl, nil2_ret (by (try simp only [ext_ext]); repeat (first | exact Bel.refl _ | assumption | refine bel_and ?_ _ | refine bel_drews ?_ _ | refine Bel.ext ?_ _ | refine Bel.alloc ?_ _ | refine Bel.drewN ?_ _))⟩
  | true =>
  rw [ho] at q3
  have HF : Hid (brBuild l n m P = (P, builtB l n m P, 0)) := Lib.hid (by unfold brBuild; rw [if_neg (by simpa using htm), if_neg hlen, hk, ho]; rfl)
  have q4 := Lib.hid (fun V hb => built_any A F c cf P l n m V hn hd (hs.bel (w' := V) hb) hnA (hsf.bel hb) hl (by omega) (by omega) htm hk)
  rw [HF.out]
  show Calls _ _ _ _ (fun e w' => ∃ A' c' B' d', e = .returned (.tuple #[.agg #[.slice A' P.length c', .slice B' (builtB l n m P).length d'], .int .i64 0]) ∧ ∃ x, w' = ext w x ∧ Own (ext w x) w.heap.size 3 1 A' P.length c' (vi P) ∧ Own (ext w x) w.heap.size 3 1 B' (builtB l n m P).length d' (vi (builtB l n m P)) ∧ RowsApart A' B')
  generalize builtB l n m P = R at q4 ⊢
  clear HF hs hsf hl hP hn hd htm hnA hlen hk ho
  go_enter Try.func36, Try.ntmps36
  go_wp2_with (first | (go_at_call 45; (with_reducible refine (q1.out _ (by (try simp only [ext_ext]); repeat (first | exact Bel.refl _ | assumption | refine bel_and ?_ _ | refine bel_drews ?_ _ | refine Bel.ext ?_ _ | refine Bel.alloc ?_ _ | refine Bel.drewN ?_ _))).mono ?_); rintro e _ ⟨rfl, n1, rfl⟩) | (go_at_call 59; (with_reducible refine (q2.out _ (by (try simp only [ext_ext]); repeat (first | exact Bel.refl _ | assumption | refine bel_and ?_ _ | refine bel_drews ?_ _ | refine Bel.ext ?_ _ | refine Bel.alloc ?_ _ | refine Bel.drewN ?_ _))).mono ?_); rintro e _ ⟨rfl, n2, rfl⟩) | (go_at_call 60; (with_reducible refine (q3.out _ (by (try simp only [ext_ext]); repeat (first | exact Bel.refl _ | assumption | refine bel_and ?_ _ | refine bel_drews ?_ _ | refine Bel.ext ?_ _ | refine Bel.alloc ?_ _ | refine Bel.drewN ?_ _))).mono ?_); rintro e _ ⟨rfl, n3, rfl⟩) | (go_at_call 82; (with_reducible refine (q4.out _ (by (try simp only [ext_ext]); repeat (first | exact Bel.refl _ | assumption | refine bel_and ?_ _ | refine bel_drews ?_ _ | refine Bel.ext ?_ _ | refine Bel.alloc ?_ _ | refine Bel.drewN ?_ _))).mono ?_); rintro _ _ ⟨A1, c1, B1, d1, rfl, x4, rfl, O1, O2, hap⟩))
  refine bodyPost_ret (v := .tuple #[.agg #[.slice A1 P.length c1, .slice B1 R.length d1], .int .i64 0]) (by simp [results, Try.results36, go_sem]) rfl ?_
  have t1 : ∀ q, A1 = some ⟨q, 0, none⟩ → q ≠ w.heap.size + 2 := fun q hq => by rw [hq] at O1; have := own_ge O1; simp at this; omega
  have t2 : ∀ q, B1 = some ⟨q, 0, none⟩ → q ≠ w.heap.size + 2 := fun q hq => by rw [hq] at O2; have := own_ge O2; simp at this; omega
  refine ⟨A1, c1, B1, d1, rfl, own2_ret (by (try simp only [ext_ext]); repeat (first | exact Bel.refl _ | assumption | refine bel_and ?_ _ | refine bel_drews ?_ _ | refine Bel.ext ?_ _ | refine Bel.alloc ?_ _ | refine Bel.drewN ?_ _)) (own_but O1 t1 (by simp only [pheap_ext, pheap_drew, pheap_alloc, objs_and, objs_drewN, ← Array.append_assoc]; repeat (first | ((with_reducible refine PBut.same ?_); (repeat (first | (with_reducible exact PSame.refl _ _) | (with_reducible apply PSame.both) | (refine PSame.swap ?_ (by first | (with_reducible rfl) | (simp [Beyond.len]; done) | (simp [Beyond.len]; omega))))); done) | (with_reducible apply PBut.right)))) (by simp; omega) (own_but O2 t2 (by simp only [pheap_ext, pheap_drew, pheap_alloc, objs_and, objs_drewN, ← Array.append_assoc]; repeat (first | ((with_reducible refine PBut.same ?_); (repeat (first | (with_reducible exact PSame.refl _ _) | (with_reducible apply PSame.both) | (refine PSame.swap ?_ (by first | (with_reducible rfl) | (simp [Beyond.len]; done) | (simp [Beyond.len]; omega))))); done) | (with_reducible apply PBut.right)))) (by simp; omega) hap⟩
end Go.Proofs.Ytkcpnclgcmnlcaa

namespace Go.Proofs.Ytkcpnclgcmnlcaa
open Go.RowKit Go.Pel
set_option maxRecDepth 10000 in
set_option maxHeartbeats 4000000 in
theorem bbuild_any (A F : Option Addr) (c cf : Nat) (P : List Int) (l : List Pt) (n m : Int) (w : World) (hn : -9223372036854775808 ≤ n ∧ n ≤ 9223372036854775807) (hd : -9223372036854775808 ≤ m ∧ m ≤ 9223372036854775807) (hs : Sl w 1 A P.length c (vi P)) (hnA : A = none → c = 0) (hsf : Sl w 3 F l.length cf (vp l)) (hl : l.length ≤ 1000000) (hP : P.length ≤ 1000) (hf : ∀ x ∈ P, wf64 x) :
    Calls Try.prog 35 #[.agg #[.slice F l.length cf], .agg #[.int .i64 n, .int .i64 m], .slice A P.length c] w fun e w' => ∃ A' c' B' d', e = .returned (.tuple #[.agg #[.slice A' (brBuild l n m P).1.length c', .slice B' (brBuild l n m P).2.1.length d'], .int .i64 (brBuild l n m P).2.2]) ∧ ∃ x, w' = ext w x ∧ Own (ext w x) w.heap.size 3 1 A' (brBuild l n m P).1.length c' (vi (brBuild l n m P).1) ∧ Own (ext w x) w.heap.size 3 1 B' (brBuild l n m P).2.1.length d' (vi (brBuild l n m P).2.1) ∧ RowsApart A' B' := by
  have q1 := Lib.hid (fun V hb => btimed_any F cf l n m V hn hd (hsf.bel (w' := V) hb))
  by_cases htm : timed l n m = 0
  case neg =>
    obtain ⟨v, hv⟩ : ∃ v, timed l n m = v := ⟨_, rfl⟩
    have HF : Hid (brBuild l n m P = ([], [], v)) := Lib.hid (by unfold brBuild; rw [if_pos htm, hv])
    rw [hv] at q1 htm
    have z1 : (v != 0) = true := by simpa using htm
    rw [HF.out]
    clear hs hsf hl hP hn hd hv htm hnA hf
    go_enter Try.func35, Try.ntmps35
    go_wp2_with ((go_at_call 74; (with_reducible refine (q1.out _ (by (try simp only [ext_ext]); repeat (first | exact Bel.refl _ | assumption | refine bel_and ?_ _ | refine bel_drews ?_ _ | refine Bel.ext ?_ _ | refine Bel.alloc ?_ _ | refine Bel.drewN ?_ _))).mono ?_); rintro e _ ⟨rfl, nx, rfl⟩))
    refine bodyPost_ret (v := .tuple #[.agg #[.slice none 0 0, .slice none 0 0], .int .i64 (v)]) (by simp [results, Try.results35, go_sem]) rfl ?_
    exact ⟨none, 0, none, 0, rfl, nil2_ret (by (try simp only [ext_ext]); repeat (first | exact Bel.refl _ | assumption | refine bel_and ?_ _ | refine bel_drews ?_ _ | refine Bel.ext ?_ _ | refine Bel.alloc ?_ _ | refine Bel.drewN ?_ _))⟩

  rw [htm] at q1
  by_cases hlen : P.length < 1 ∨ 64 < P.length
  case pos =>
    have HF : Hid (brBuild l n m P = ([], [], 2)) := Lib.hid (by unfold brBuild; rw [if_neg (by simpa using htm), if_pos hlen])
    by_cases h1 : P.length < 1
    · have z1 : decide ((P.length : Int) < 1) = true := by rw [decide_eq_true_eq]; omega
      rw [HF.out]
      clear hs hsf hl hP hn hd htm hnA hlen h1 hf
      go_enter Try.func35, Try.ntmps35
      go_wp2_with ((go_at_call 74; (with_reducible refine (q1.out _ (by (try simp only [ext_ext]); repeat (first | exact Bel.refl _ | assumption | refine bel_and ?_ _ | refine bel_drews ?_ _ | refine Bel.ext ?_ _ | refine Bel.alloc ?_ _ | refine Bel.drewN ?_ _))).mono ?_); rintro e _ ⟨rfl, nx, rfl⟩))
      refine bodyPost_ret (v := .tuple #[.agg #[.slice none 0 0, .slice none 0 0], .int .i64 (2)]) (by simp [results, Try.results35, go_sem]) rfl ?_
      exact ⟨none, 0, none, 0, rfl, nil2_ret (by (try simp only [ext_ext]); repeat (first | exact Bel.refl _ | assumption | refine bel_and ?_ _ | refine bel_drews ?_ _ | refine Bel.ext ?_ _ | refine Bel.alloc ?_ _ | refine Bel.drewN ?_ _))⟩
  
    · have z1 : decide ((P.length : Int) < 1) = false := by rw [decide_eq_false_iff_not]; omega
      have z2 : decide ((64 : Int) < (P.length : Int)) = true := by rw [decide_eq_true_eq]; omega
      rw [HF.out]
      clear hs hsf hl hP hn hd htm hnA hlen h1 hf
      go_enter Try.func35, Try.ntmps35
      go_wp2_with ((go_at_call 74; (with_reducible refine (q1.out _ (by (try simp only [ext_ext]); repeat (first | exact Bel.refl _ | assumption | refine bel_and ?_ _ | refine bel_drews ?_ _ | refine Bel.ext ?_ _ | refine Bel.alloc ?_ _ | refine Bel.drewN ?_ _))).mono ?_); rintro e _ ⟨rfl, nx, rfl⟩))
      refine bodyPost_ret (v := .tuple #[.agg #[.slice none 0 0, .slice none 0 0], .int .i64 (2)]) (by simp [results, Try.results35, go_sem]) rfl ?_
      exact ⟨none, 0, none, 0, rfl, nil2_ret (by (try simp only [ext_ext]); repeat (first | exact Bel.refl _ | assumption | refine bel_and ?_ _ | refine bel_drews ?_ _ | refine Bel.ext ?_ _ | refine Bel.alloc ?_ _ | refine Bel.drewN ?_ _))⟩
  
  have z1 : decide ((P.length : Int) < 1) = false := by rw [decide_eq_false_iff_not]; omega
  have z2 : decide ((64 : Int) < (P.length : Int)) = false := by rw [decide_eq_false_iff_not]; omega
  have hinc := (fieldChk_zero (timed_zero htm).1).2.2
  have q2 := Lib.hid (fun V hb => known_any F A cf c l P V (hsf.bel (w' := V) hb) (hs.bel hb) hl (by omega) hinc)
  have qo := Lib.hid (fun V hb => once_any A c P V (hs.bel (w' := V) hb) (by omega) hf)
  cases hk : knownB l P with
  | false =>
    have HF : Hid (brBuild l n m P = ([], [], 6)) := Lib.hid (by unfold brBuild; rw [if_neg (by simpa using htm), if_neg hlen, hk]; rfl)
    rw [hk] at q2
    rw [HF.out]
    clear hs hsf hl hP hn hd htm hnA hlen hk hf hinc
    go_enter Try.func35, Try.ntmps35
    go_wp2_with (first | (go_at_call 74; (with_reducible refine (q1.out _ (by (try simp only [ext_ext]); repeat (first | exact Bel.refl _ | assumption | refine bel_and ?_ _ | refine bel_drews ?_ _ | refine Bel.ext ?_ _ | refine Bel.alloc ?_ _ | refine Bel.drewN ?_ _))).mono ?_); rintro e _ ⟨rfl, n1, rfl⟩) | (go_at_call 76; (with_reducible refine (q2.out _ (by (try simp only [ext_ext]); repeat (first | exact Bel.refl _ | assumption | refine bel_and ?_ _ | refine bel_drews ?_ _ | refine Bel.ext ?_ _ | refine Bel.alloc ?_ _ | refine Bel.drewN ?_ _))).mono ?_); rintro e _ ⟨rfl, n2, rfl⟩) | (go_at_call 77; (with_reducible refine (qo.out _ (by (try simp only [ext_ext]); repeat (first | exact Bel.refl _ | assumption | refine bel_and ?_ _ | refine bel_drews ?_ _ | refine Bel.ext ?_ _ | refine Bel.alloc ?_ _ | refine Bel.drewN ?_ _))).mono ?_); rintro e _ ⟨rfl, n3, rfl⟩))
    refine bodyPost_ret (v := .tuple #[.agg #[.slice none 0 0, .slice none 0 0], .int .i64 (6)]) (by simp [results, Try.results35, go_sem]) rfl ?_
    exact ⟨none, 0, none, 0, rfl, nil2_ret (by (try simp only [ext_ext]); repeat (first | exact Bel.refl _ | assumption | refine bel_and ?_ _ | refine bel_drews ?_ _ | refine Bel.ext ?_ _ | refine Bel.alloc ?_ _ | refine Bel.drewN ?_ _))⟩
  | true =>
  rw [hk] at q2
  cases ho : onceB P with
  | false =>
    have HF : Hid (brBuild l n m P = ([], [], 14)) := Lib.hid (by unfold brBuild; rw [if_neg (by simpa using htm), if_neg hlen, hk, ho]; rfl)
    rw [ho] at qo
    rw [HF.out]
    clear hs hsf hl hP hn hd htm hnA hlen hk ho hf hinc
    go_enter Try.func35, Try.ntmps35
    go_wp2_with (first | (go_at_call 74; (with_reducible refine (q1.out _ (by (try simp only [ext_ext]); repeat (first | exact Bel.refl _ | assumption | refine bel_and ?_ _ | refine bel_drews ?_ _ | refine Bel.ext ?_ _ | refine Bel.alloc ?_ _ | refine Bel.drewN ?_ _))).mono ?_); rintro e _ ⟨rfl, n1, rfl⟩) | (go_at_call 76; (with_reducible refine (q2.out _ (by (try simp only [ext_ext]); repeat (first | exact Bel.refl _ | assumption | refine bel_and ?_ _ | refine bel_drews ?_ _ | refine Bel.ext ?_ _ | refine Bel.alloc ?_ _ | refine Bel.drewN ?_ _))).mono ?_); rintro e _ ⟨rfl, n2, rfl⟩) | (go_at_call 77; (with_reducible refine (qo.out _ (by (try simp only [ext_ext]); repeat (first | exact Bel.refl _ | assumption | refine bel_and ?_ _ | refine bel_drews ?_ _ | refine Bel.ext ?_ _ | refine Bel.alloc ?_ _ | refine Bel.drewN ?_ _))).mono ?_); rintro e _ ⟨rfl, n3, rfl⟩))
    refine bodyPost_ret (v := .tuple #[.agg #[.slice none 0 0, .slice none 0 0], .int .i64 (14)]) (by simp [results, Try.results35, go_sem]) rfl ?_
    exact ⟨none, 0, none, 0, rfl, nil2_ret (by (try simp only [ext_ext]); repeat (first | exact Bel.refl _ | assumption | refine bel_and ?_ _ | refine bel_drews ?_ _ | refine Bel.ext ?_ _ | refine Bel.alloc ?_ _ | refine Bel.drewN ?_ _))⟩
  | true =>
  rw [ho] at qo
  have HF : Hid (brBuild l n m P = (P, builtB l n m P, 0)) := Lib.hid (by unfold brBuild; rw [if_neg (by simpa using htm), if_neg hlen, hk, ho]; rfl)
  rw [HF.out]
  show Calls _ _ _ _ (fun e w' => ∃ A' c' B' d', e = .returned (.tuple #[.agg #[.slice A' P.length c', .slice B' (builtB l n m P).length d'], .int .i64 0]) ∧ ∃ x, w' = ext w x ∧ Own (ext w x) w.heap.size 3 1 A' P.length c' (vi P) ∧ Own (ext w x) w.heap.size 3 1 B' (builtB l n m P).length d' (vi (builtB l n m P)) ∧ RowsApart A' B')
  have hP1 : 1 ≤ P.length := by omega
  clear HF ho hf hinc
  have hRl := builtB_len l n m P
  obtain ⟨R, hR⟩ : ∃ R, builtB l n m P = R := ⟨_, rfl⟩
  rw [hR] at hRl ⊢
  have HR := Lib.hid hR
  clear hR
  obtain ⟨k, hkP⟩ : ∃ k, P.length = k + 1 := ⟨P.length - 1, by omega⟩
  have e1 : IntKind.i64.wrap ((P.length : Int) - 1) = (k : Int) := by rw [IntWalk.i64_in _ (by omega)]; omega
  obtain ⟨cs, hcs, hmk⟩ := make_ints k (by omega)
  have hHcs := Lib.hid hcs
  have hcsz : cs.size = k * 1 := by have := congrArg List.length hcs; simpa [vi] using this
  have HkP := Lib.hid hkP
  replace hRl : R.length = k := by omega
  have HRl := Lib.hid hRl
  rw [hRl]
  have HK := Lib.hid (fun x hx => known_ok hk (x := x) hx)
  have q3 := Lib.hid (fun W' (A1 B1 : Option Addr) (c1 d1 : Nat) (Wm : List Int) (h1 : Sl W' 1 A1 P.length c1 (vi P)) (h2 : Sl W' 1 B1 Wm.length d1 (vi Wm)) (hWm : Wm.length = k) i j v hj hv hi => node_int A1 B1 c1 d1 P Wm i j v hj hv W' h1 h2 hP (by omega) hi)
  have q7 := Lib.hid (fun W' hb x y z hz hx hy => won_lit F cf l n m x y z hz W' hn hd (hsf.bel (w' := W') hb) htm hx hy)
  have hk6 : k ≤ 1000000 := by omega
  have hPl : P.length ≤ 1000000 := by omega
  have qc := Lib.hid (fun V hb => cloneI_any A c P V (hs.bel (w' := V) hb) hnA (by omega))
  clear hcs hkP hRl hk htm hn hd hsf hlen
  go_enter Try.func35, Try.ntmps35
  go_wp2_with (first | (go_at_call 74; (with_reducible refine (q1.out _ (by (try simp only [ext_ext]); repeat (first | exact Bel.refl _ | assumption | refine bel_and ?_ _ | refine bel_drews ?_ _ | refine Bel.ext ?_ _ | refine Bel.alloc ?_ _ | refine Bel.drewN ?_ _))).mono ?_); rintro e _ ⟨rfl, n1, rfl⟩) | (go_at_call 76; (with_reducible refine (q2.out _ (by (try simp only [ext_ext]); repeat (first | exact Bel.refl _ | assumption | refine bel_and ?_ _ | refine bel_drews ?_ _ | refine Bel.ext ?_ _ | refine Bel.alloc ?_ _ | refine Bel.drewN ?_ _))).mono ?_); rintro e _ ⟨rfl, n2, rfl⟩) | (go_at_call 77; (with_reducible refine (qo.out _ (by (try simp only [ext_ext]); repeat (first | exact Bel.refl _ | assumption | refine bel_and ?_ _ | refine bel_drews ?_ _ | refine Bel.ext ?_ _ | refine Bel.alloc ?_ _ | refine Bel.drewN ?_ _))).mono ?_); rintro e _ ⟨rfl, n3, rfl⟩))
  obtain ⟨V, hV⟩ : ∃ V, ext (((w.alloc (.cells #[.slice F l.length cf] 24)).alloc (.cells #[.int .i64 n, .int .i64 m] 49)).alloc (.cells #[.slice none 0 0, .slice none 0 0] 47)) ((n1.and n2).and n3) = V := ⟨_, rfl⟩
  have hb : Bel w V := by rw [← hV]; exact (by (try simp only [ext_ext]); repeat (first | exact Bel.refl _ | assumption | refine bel_and ?_ _ | refine bel_drews ?_ _ | refine Bel.ext ?_ _ | refine Bel.alloc ?_ _ | refine Bel.drewN ?_ _))
  have BF : Box V w.heap.size #[.slice F l.length cf] := Box.new (W := w) (e := 24) (by rw [← hV]; exact (by (try simp only [ext_ext]); repeat (first | exact Bel.refl _ | assumption | refine bel_and ?_ _ | refine bel_drews ?_ _ | refine Bel.ext ?_ _ | refine Bel.alloc ?_ _ | refine Bel.drewN ?_ _))) rfl
  have BT : Box V (w.heap.size + 1) #[.int .i64 n, .int .i64 m] := Box.new (W := w.alloc (.cells #[.slice F l.length cf] 24)) (e := 49) (by rw [← hV]; exact (by (try simp only [ext_ext]); repeat (first | exact Bel.refl _ | assumption | refine bel_and ?_ _ | refine bel_drews ?_ _ | refine Bel.ext ?_ _ | refine Bel.alloc ?_ _ | refine Bel.drewN ?_ _))) (by simp)
  have BR : Box V (w.heap.size + 2) #[.slice none 0 0, .slice none 0 0] := Box.new (W := (w.alloc (.cells #[.slice F l.length cf] 24)).alloc (.cells #[.int .i64 n, .int .i64 m] 49)) (e := 47) (by rw [← hV]; exact (by (try simp only [ext_ext]); repeat (first | exact Bel.refl _ | assumption | refine bel_and ?_ _ | refine bel_drews ?_ _ | refine Bel.ext ?_ _ | refine Bel.alloc ?_ _ | refine Bel.drewN ?_ _))) (by simp)
  rw [hV]
  obtain ⟨gt, hgt⟩ : ∃ g, w.heap.size + 1 = g := ⟨_, rfl⟩
  obtain ⟨gr, hgr⟩ : ∃ g, w.heap.size + 2 = g := ⟨_, rfl⟩
  rw [hgr] at BR
  rw [hgt] at BT
  (try rw [show w.heap.size + 1 + 1 = gr by omega])
  (try rw [hgr])
  rw [hgt]
  have hgw : w.heap.size ≤ gr := by omega
  clear hV
  go_cut [9] (fun s9 wx => ∃ (g b c1 : Nat) (A1 : Option Addr), s9 = .pointer (some ⟨g, 0, none⟩) ∧ V.heap.size ≤ g ∧ V.heap.size ≤ b ∧ Bel V wx ∧ Box wx g #[.slice A1 P.length c1, .slice (some ⟨b, 0, none⟩) k k] ∧ (Own wx V.heap.size 3 1 A1 P.length c1 (vi P) ∧ ∀ q, A1 = some ⟨q, 0, none⟩ → q ≠ b ∧ q ≠ g) ∧ Own wx V.heap.size 3 1 (some ⟨b, 0, none⟩) k k (vi (List.replicate k 0)) ∧ b ≠ g)
  case first =>
    go_region_held3 (fun _ => True) (trivial) ((first
      | (go_at_call 75; (with_reducible refine (qc.out _ (Bel.trans hb (by (try simp only [ext_ext]); repeat (first | exact Bel.refl _ | assumption | refine Bel.drew ?_ | refine bel_and ?_ _ | refine bel_drews ?_ _ | refine Bel.ext ?_ _ | refine Bel.alloc ?_ _ | refine Bel.drewN ?_ _)))).mono ?_); rintro _ _ ⟨A1, c1, rfl, y1, rfl, own1⟩)))
    all_goals
      go_wp2_with fail
      go_meet
      refine ⟨_, _, c1, A1, rfl, ?_, ?_, (by (try simp only [ext_ext]); repeat (first | exact Bel.refl _ | assumption | refine Bel.drew ?_ | refine bel_and ?_ _ | refine bel_drews ?_ _ | refine Bel.ext ?_ _ | refine Bel.alloc ?_ _ | refine Bel.drewN ?_ _)), (by repeat (first | ((with_reducible refine Box.here ?_); first | (with_reducible rfl) | (simp [go_sem]; done)) | (with_reducible refine Box.alloc ?_) | (with_reducible refine Box.ext ?_) | (with_reducible refine Box.drew ?_))), own_ne (own1.base_le ?_) ?_ (by simp only [pheap_ext, pheap_drew, pheap_alloc, objs_and, objs_drewN, ← Array.append_assoc]; repeat (first | ((with_reducible refine PBut.same ?_); (repeat (first | (with_reducible exact PSame.refl _ _) | (with_reducible apply PSame.both) | (refine PSame.swap ?_ (by first | (with_reducible rfl) | (simp [Beyond.len]; done) | (simp [Beyond.len]; omega))))); done) | (with_reducible apply PBut.right))), own_list (xs := cs.toList) ?hown hHcs.out, ?_⟩
      case hown => exact (by repeat (first | ((with_reducible refine Own.here (by first | (with_reducible rfl) | (simp [go_sem]; done)) (by first | omega | (simp; done) | (simp; omega)) ?_ ?_); omega; exact hcsz) | (with_reducible refine Own.alloc' ?_) | (with_reducible refine Own.ext' ?_) | (with_reducible refine Own.drew' ?_)))
      any_goals (first | omega | (simp; done) | (simp; omega))
      all_goals
        intro q hq
        rw [hq] at own1
        have a1 := own_ge own1
        have t1 := own_lt own1
        simp at a1 t1
        (first | omega | (constructor <;> omega))
  obtain ⟨g, b, c1, A1, rfl, hg, hbb, hx, BX, ⟨OP, hA1⟩, OW, hbg⟩ := hcut
  obtain ⟨V1, rfl⟩ : ∃ W, W = wc := ⟨_, rfl⟩
  have e2 : IntKind.i64.wrap ((k : Int) - 1) = (k : Int) - 1 := IntWalk.i64_in _ (by omega)
  have xs0 := BX.eq 1 (.slice (some ⟨b, 0, none⟩) k k) rfl
  have xs1 := BX.lt
  go_wp2
  go_loopw [10] (fun i wr => ∃ (q : Nat) (Wm : List Int), q ≤ k ∧ Wm.length = k ∧ i = .int .i64 ((q : Int) - 1) ∧ fillB l n m P q Wm = R ∧ (∀ j, q ≤ j → j < k + P.length → Ok l (nodeV P Wm j)) ∧ Bel V wr ∧ Box wr g #[.slice A1 P.length c1, .slice (some ⟨b, 0, none⟩) k k] ∧ Own wr V.heap.size 3 1 A1 P.length c1 (vi P) ∧ Own wr V.heap.size 3 1 (some ⟨b, 0, none⟩) k k (vi Wm)) (fun i _ => (intOf i + 1).toNat)
  case atStart =>
    refine ⟨k, List.replicate k 0, Nat.le_refl _, by simp, rfl, ?_, ?_, hx, BX, OP, OW⟩
    · rw [← HR.out]; unfold builtB; rw [HkP.out]; rfl
    · intro j hj hj2
      refine HK.out _ ?_
      unfold nodeV
      rw [List.length_replicate, if_neg (by omega), List.getD_eq_getElem?_getD, List.getElem?_eq_getElem (by omega)]
      exact List.getElem_mem _
  case round =>
    obtain ⟨q, Wm, hq, hWl, rfl, hfill, hok, hB, BX', OP', OW'⟩ := hrel
    clear BX OP OW hx xs0 xs1
    have BF' := BF.bel hB
    have BT' := BT.bel hB
    have BR' := BR.bel hB
    have hb' := hb.trans hB
    cases q with
    | zero =>
      have HF := Lib.hid (show Wm = R from hfill)
      clear hfill hok
      have z1 : decide ((0 : Int) ≤ ((0 : Nat) : Int) - 1) = false := by decide
      have xe0 := BX'.eq 0 (.slice A1 P.length c1) rfl
      have xe1 := BX'.eq 1 (.slice (some ⟨b, 0, none⟩) k k) rfl
      have xr0 := BR'.eq 0 (.slice none 0 0) rfl
      have xr1 := BR'.eq 1 (.slice none 0 0) rfl
      have xf0 := BR'.fr 0
      have xf1 := BR'.fr 1
      have xl0 := BX'.lt
      have xl1 := BR'.lt
      go_wp2
      refine bodyPost_ret (v := .tuple #[.agg #[.slice A1 P.length c1, .slice (some ⟨b, 0, none⟩) k k], .int .i64 0]) (by simp [results, Try.results35, go_sem, xl0, xl1, xr0, xr1]) rfl ?_
      have hgrV : gr < V.heap.size := BR.lt
      have t1 := own_others (own_others OP' (b := gr) 0 (.slice A1 P.length c1) (fun q hq => by rw [hq] at OP'; have := own_ge OP'; omega)) (b := gr) 1 (.slice (some ⟨b, 0, none⟩) k k) (fun q hq => by rw [hq] at OP'; have := own_ge OP'; omega)
      have t2 := own_others (own_others OW' (b := gr) 0 (.slice A1 P.length c1) (fun q hq => by injection hq with hq; injection hq with hq; omega)) (b := gr) 1 (.slice (some ⟨b, 0, none⟩) k k) (fun q hq => by injection hq with hq; injection hq with hq; omega)
      rw [HF.out] at t2
      exact ⟨A1, c1, some ⟨b, 0, none⟩, k, rfl, own2_ret ((hb'.setCell (p := ⟨gr, 0, none⟩) hgw _).setCell (p := ⟨gr, 1, none⟩) hgw _) t1 hb.le t2 hb.le (fun q h1 h2 => by injection h2 with h2; injection h2 with h2; exact (hA1 q h1).1 h2.symm)⟩
    | succ j =>
      obtain ⟨x, hx⟩ : ∃ x, nodeV P Wm (2 * j + 1) = x := ⟨_, rfl⟩
      obtain ⟨y, hy⟩ : ∃ y, nodeV P Wm (2 * j + 2) = y := ⟨_, rfl⟩
      obtain ⟨z, hz⟩ : ∃ z, wonV l n m x y = z := ⟨_, rfl⟩
      have hPk := HkP.out
      have okx : Ok l x := hx ▸ hok (2 * j + 1) (by omega) (by omega)
      have oky : Ok l y := hy ▸ hok (2 * j + 2) (by omega) (by omega)
      have q4 := Lib.hid (fun W' hb1 => (nodeK (q3.out W' A1 (some ⟨b, 0, none⟩) c1 k Wm (OP'.sl.bel (w' := W') hb1) (by rw [hWl]; exact OW'.sl.bel hb1) hWl (2 * j + 1) (2 * (j : Int) + 1) x (by omega) hx (by omega)) hWl))
      have q5 := Lib.hid (fun W' hb1 => (nodeK (q3.out W' A1 (some ⟨b, 0, none⟩) c1 k Wm (OP'.sl.bel (w' := W') hb1) (by rw [hWl]; exact OW'.sl.bel hb1) hWl (2 * j + 2) (2 * (j : Int) + 2) y (by omega) hy (by omega)) hWl))
      have q6 := Lib.hid (fun W' hb1 => q7.out W' (hb'.trans hb1) x y z hz okx oky)
      have HF := Lib.hid (show fillB l n m P j (Wm.set j z) = R by rw [← hfill, ← hz, ← hx, ← hy]; rfl)
      have HOK := Lib.hid (show ∀ i, j ≤ i → i < k + P.length → Ok l (nodeV P (Wm.set j z) i) from fun i hi hi2 => by
        rcases Nat.eq_or_lt_of_le hi with rfl | hlt
        · rw [nodeV_set_eq (by omega)]; exact hz ▸ won_ok okx oky
        · rw [nodeV_set_ge (by omega) hlt]; exact hok i hlt hi2)
      have HWl := Lib.hid hWl
      obtain ⟨u, hu⟩ : ∃ u, (vi Wm)[j]? = some u := ⟨_, List.getElem?_eq_getElem (by simp [vi]; omega)⟩
      have ej : (((j + 1 : Nat) : Int) - 1) = (j : Int) := by omega
      rw [ej]
      have z1 : decide ((0 : Int) ≤ (j : Int)) = true := by rw [decide_eq_true_eq]; omega
      have hj2 : (j : Int) < (k : Int) := by omega
      have e3 : IntKind.i64.wrap (2 * (j : Int)) = 2 * (j : Int) := IntWalk.i64_in _ (by omega)
      have e4 : IntKind.i64.wrap (2 * (j : Int) + 1) = 2 * (j : Int) + 1 := IntWalk.i64_in _ (by omega)
      have e5 : IntKind.i64.wrap (2 * (j : Int) + 2) = 2 * (j : Int) + 2 := IntWalk.i64_in _ (by omega)
      have e6 : IntKind.i64.wrap ((j : Int) - 1) = (j : Int) - 1 := IntWalk.i64_in _ (by omega)
      have xe0 := BX'.eq 0 (.slice A1 P.length c1) rfl
      have xe1 := BX'.eq 1 (.slice (some ⟨b, 0, none⟩) k k) rfl
      have xe2 := BF'.eq 0 (.slice F l.length cf) rfl
      have xe3 := BT'.eq 0 (.int .i64 n) rfl
      have xe4 := BT'.eq 1 (.int .i64 m) rfl
      have xl0 := BX'.lt
      have xl1 := BF'.lt
      have xl2 := BT'.lt
      clear hfill hok hx hy hz okx oky ej hPk hWl
      go_wp2
      ((first | refine RegC.wp_region_tail1 17 (by kernel_rfl) (by kernel_rfl) ?_ | refine RegC.wp_region_tail0 17 (by kernel_rfl) (by kernel_rfl) ?_); simp only [List.take_succ_cons, List.take_zero, List.drop_succ_cons, List.drop_zero]; (repeat (any_goals (first | go_big_quiet_step (first | (go_at_call 80; with_reducible first | exact Calls.ext_of1 (q4.out _ (by (try simp only [ext_ext]); repeat (first | exact Bel.refl _ | assumption | refine bel_and ?_ _ | refine bel_drews ?_ _ | refine Bel.ext ?_ _ | refine Bel.alloc ?_ _ | refine Bel.drewN ?_ _))) | exact Calls.ext_of (q4.out _ (by (try simp only [ext_ext]); repeat (first | exact Bel.refl _ | assumption | refine bel_and ?_ _ | refine bel_drews ?_ _ | refine Bel.ext ?_ _ | refine Bel.alloc ?_ _ | refine Bel.drewN ?_ _))) | exact Calls.ext_of1 (q5.out _ (by (try simp only [ext_ext]); repeat (first | exact Bel.refl _ | assumption | refine bel_and ?_ _ | refine bel_drews ?_ _ | refine Bel.ext ?_ _ | refine Bel.alloc ?_ _ | refine Bel.drewN ?_ _))) | exact Calls.ext_of (q5.out _ (by (try simp only [ext_ext]); repeat (first | exact Bel.refl _ | assumption | refine bel_and ?_ _ | refine bel_drews ?_ _ | refine Bel.ext ?_ _ | refine Bel.alloc ?_ _ | refine Bel.drewN ?_ _)))) | (go_at_call 79; with_reducible first | exact Calls.ext_of1 (q6.out _ (by (try simp only [ext_ext]); repeat (first | exact Bel.refl _ | assumption | refine bel_and ?_ _ | refine bel_drews ?_ _ | refine Bel.ext ?_ _ | refine Bel.alloc ?_ _ | refine Bel.drewN ?_ _))) | exact Calls.ext_of (q6.out _ (by (try simp only [ext_ext]); repeat (first | exact Bel.refl _ | assumption | refine bel_and ?_ _ | refine bel_drews ?_ _ | refine Bel.ext ?_ _ | refine Bel.alloc ?_ _ | refine Bel.drewN ?_ _))))) | (refine RegC.wpQuiet_split rfl rfl (fun hb => ?_) (fun hb => ?_) <;> simp only [hb])))); all_goals (refine wpQuiet_nil ?_; rintro W2 hq))
      replace hq := bel_of hq
      have OW2 := OW'.bel hq
      have OP2 := OP'.bel hq
      have BX2 := BX'.bel hq
      have w0 := own_cell OW2 hu
      have w1 := own_frozen OW2 j
      go_wp2
      go_roundw
      case rel =>
        have t1 := own_others OP2 (b := b) j (.int .i64 z) (fun q hq => (hA1 q hq).1)
        have t2 := (World.ownsRow.stored OW2 j (.int .i64 z)).1
        rw [← vi_set] at t2
        exact ⟨j, Wm.set j z, by omega, by rw [List.length_set]; exact HWl.out, rfl, HF.out, HOK.out, (hB.trans hq).setCell (p := ⟨b, j, none⟩) hbb _, BX2.other j _ hbg, t1, t2⟩
      case measure => (first | (simp [intOf]; done) | (simp [intOf]; omega))
end Go.Proofs.Ytkcpnclgcmnlcaa

namespace Go.Pel
open Go Go.RowKit
/-- the inner nodes above a node, from below -/
def wayI : Nat → List Int
  | 0 => []
  | i + 1 => ((i / 2 : Nat) : Int) :: wayI (i / 2)
termination_by i => i
decreasing_by omega
theorem wayI_zero : wayI 0 = [] := by rw [wayI]
theorem wayI_succ (i : Nat) : wayI (i + 1) = ((i / 2 : Nat) : Int) :: wayI (i / 2) := by rw [wayI]
theorem wayI_len (i : Nat) : (wayI i).length ≤ i := by
  induction i using Nat.strongRecOn with
  | _ i ih =>
    cases i with
    | zero => rw [wayI_zero]; exact Nat.le_refl _
    | succ i => rw [wayI_succ, List.length_cons]; have := ih (i / 2) (by omega); omega
/-- P10.2 -/
def brPath (P W : List Int) (k : Int) : List Int × Int := if brChk P W ≠ 0 then ([], 8) else if k < 0 ∨ (P.length : Int) ≤ k then ([], 2) else (wayI (W.length + k.toNat), 0)
end Go.Pel
namespace Go.Proofs.Ytkcpnclgcmnlcaa
open Go.RowKit Go.Pel
set_option maxRecDepth 10000 in
set_option maxHeartbeats 4000000 in
theorem way_any (A B : Option Addr) (c d p : Nat) (P W : List Int) (w : World) (hp : p ≤ 1000) (hW : W.length ≤ 1000) :
    Calls Try.prog 85 #[.agg #[.slice A P.length c, .slice B W.length d], .int .i64 p] w fun e w' => ∃ A' c', e = .returned (.slice A' (wayI (W.length + p)).length c') ∧ ∃ x, w' = ext w x ∧ Own (ext w x) w.heap.size 3 1 A' (wayI (W.length + p)).length c' (vi (wayI (W.length + p))) := by
  obtain ⟨R, hR⟩ : ∃ R, wayI (W.length + p) = R := ⟨_, rfl⟩
  rw [hR]
  have HR := Lib.hid hR
  clear hR
  have e1 : IntKind.i64.wrap ((p : Int) + (W.length : Int)) = ((p + W.length : Nat) : Int) := by rw [IntWalk.i64_in _ (by omega)]; omega
  obtain ⟨i0, hi0⟩ : ∃ i0, p + W.length = i0 := ⟨_, rfl⟩
  rw [hi0] at e1
  have H0 := Lib.hid hi0
  have hi : i0 ≤ 2000 := by omega
  clear hi0
  go_enter Try.func85, Try.ntmps85
  go_wp2
  obtain ⟨V, hV⟩ : ∃ V, w.alloc (.cells #[.slice A P.length c, .slice B W.length d] 47) = V := ⟨_, rfl⟩
  have hb : Bel w V := by rw [← hV]; exact (by (try simp only [ext_ext]); repeat (first | exact Bel.refl _ | assumption | refine bel_and ?_ _ | refine bel_drews ?_ _ | refine Bel.ext ?_ _ | refine Bel.alloc ?_ _ | refine Bel.drewN ?_ _))
  rw [hV]
  clear hV
  go_loopw [5, 6] (fun o i wr => ∃ (q : Nat) (L : List Int) (A1 : Option Addr) (c1 : Nat), o = .slice A1 L.length c1 ∧ i = .int .i64 q ∧ L ++ wayI q = R ∧ L.length + q ≤ 2000 ∧ Bel V wr ∧ Own wr V.heap.size 3 1 A1 L.length c1 (vi L)) (fun _ i _ => (intOf i).toNat)
  case atStart => exact ⟨i0, [], none, 0, rfl, rfl, by rw [← HR.out, ← H0.out, Nat.add_comm]; rfl, by simpa using hi, Bel.refl _, Own.nil_ _ _ _ _⟩
  case round =>
    obtain ⟨q, L, A1, c1, rfl, rfl, hL, hq, hB, O1⟩ := hrel
    have hb' := hb.trans hB
    cases q with
    | zero =>
      obtain rfl : L = R := by rw [wayI_zero, List.append_nil] at hL; exact hL
      have z1 : decide ((0 : Int) < ((0 : Nat) : Int)) = false := by decide
      clear hL
      go_wp2
      go_ret
      exact ⟨A1, c1, rfl, by obtain ⟨x, rfl⟩ := ext_of hb'; exact ⟨x, rfl, O1.base_le hb.le⟩⟩
    | succ j =>
      have HL := Lib.hid (show (L ++ [((j / 2 : Nat) : Int)]) ++ wayI (j / 2) = R by rw [← hL, wayI_succ, List.append_assoc]; rfl)
      have z1 : decide ((0 : Int) < ((j + 1 : Nat) : Int)) = true := by rw [decide_eq_true_eq]; omega
      have e2 : IntKind.i64.wrap (((j + 1 : Nat) : Int) - 1) = (j : Int) := by rw [IntWalk.i64_in _ (by omega)]; omega
      clear hL
      go_wp2_with ((at_builtin; (try refine wpList_unguard rfl (by first | rfl | simp [yielded]) ?_); refine append1_ext slt_ints (by (try simp only [ext_ext]); repeat (first | exact Bel.refl _ | assumption | refine bel_and ?_ _ | refine bel_drews ?_ _ | refine Bel.ext ?_ _ | refine Bel.alloc ?_ _ | refine Bel.drewN ?_ _)) O1 (by (try simp only [ext_ext]); repeat (first | exact Bel.refl _ | assumption | refine bel_and ?_ _ | refine bel_drews ?_ _ | refine Bel.ext ?_ _ | refine Bel.alloc ?_ _ | refine Bel.drewN ?_ _)) (by simp [Value.oneCell']) rfl (by omega) rfl _ _ rfl rfl rfl (by simp [go_sem]) ?_; rintro A6 c6 y6 hown6))
      go_roundw
      case rel =>
        refine ⟨j / 2, L ++ [((j / 2 : Nat) : Int)], A6, c6, by rw [List.length_append]; rfl, by go_num, HL.out, ?_, bel_ext _ _, ?_⟩
        · rw [List.length_append, List.length_singleton]; omega
        · rw [List.length_append, List.length_singleton]
          have : vi (L ++ [((j / 2 : Nat) : Int)]) = vi L ++ #[Value.int IntKind.i64 ((j : Int) / 2)].toList := by simp [vi]
          rw [this]; exact hown6
      case measure => (first | (simp [intOf]; done) | (simp [intOf]; omega))
set_option maxRecDepth 10000 in
set_option maxHeartbeats 4000000 in
theorem rpath_any (A B : Option Addr) (c d : Nat) (P W : List Int) (k : Int) (w : World) (hs : Sl w 1 A P.length c (vi P)) (ht : Sl w 1 B W.length d (vi W)) (hP : P.length ≤ 1000) (hW : W.length ≤ 1000) :
    Calls Try.prog 40 #[.agg #[.slice A P.length c, .slice B W.length d], .int .i64 k] w fun e w' => ∃ A' c', e = .returned (.tuple #[.slice A' (brPath P W k).1.length c', .int .i64 (brPath P W k).2]) ∧ ∃ x, w' = ext w x ∧ Own (ext w x) w.heap.size 3 1 A' (brPath P W k).1.length c' (vi (brPath P W k).1) := by
  have q1 := Lib.hid (fun V hb => rcheck_any A B c d P W V (hs.bel (w' := V) hb) (ht.bel hb) hP hW)
  by_cases hc : brChk P W = 0
  case neg =>
    have h8 : brChk P W = 8 := by rcases brChk_cases P W with h1 | h1; exact absurd h1 hc; exact h1
    have HF : Hid (brPath P W k = ([], 8)) := Lib.hid (by unfold brPath; rw [if_pos hc])
    rw [h8] at q1
    rw [HF.out]
    clear hs ht hP hW hc h8
    go_enter Try.func40, Try.ntmps40
    go_wp2_with ((go_at_call 44; (with_reducible refine (q1.out _ (by (try simp only [ext_ext]); repeat (first | exact Bel.refl _ | assumption | refine bel_and ?_ _ | refine bel_drews ?_ _ | refine Bel.ext ?_ _ | refine Bel.alloc ?_ _ | refine Bel.drewN ?_ _))).mono ?_); rintro e _ ⟨rfl, nx, rfl⟩))
    go_ret2
    exact ⟨none, 0, rfl, nil_ret (by (try simp only [ext_ext]); repeat (first | exact Bel.refl _ | assumption | refine bel_and ?_ _ | refine bel_drews ?_ _ | refine Bel.ext ?_ _ | refine Bel.alloc ?_ _ | refine Bel.drewN ?_ _))⟩
  rw [hc] at q1
  by_cases hk : k < 0 ∨ (P.length : Int) ≤ k
  case pos =>
    have HF : Hid (brPath P W k = ([], 2)) := Lib.hid (by unfold brPath; rw [if_neg (by simpa using hc), if_pos hk])
    rw [HF.out]
    by_cases h1 : k < 0
    · have z1 : decide (k < 0) = true := by simpa using h1
      clear hs ht hP hW hc hk h1
      go_enter Try.func40, Try.ntmps40
      go_wp2_with ((go_at_call 44; (with_reducible refine (q1.out _ (by (try simp only [ext_ext]); repeat (first | exact Bel.refl _ | assumption | refine bel_and ?_ _ | refine bel_drews ?_ _ | refine Bel.ext ?_ _ | refine Bel.alloc ?_ _ | refine Bel.drewN ?_ _))).mono ?_); rintro e _ ⟨rfl, nx, rfl⟩))
      go_ret2
      exact ⟨none, 0, rfl, nil_ret (by (try simp only [ext_ext]); repeat (first | exact Bel.refl _ | assumption | refine bel_and ?_ _ | refine bel_drews ?_ _ | refine Bel.ext ?_ _ | refine Bel.alloc ?_ _ | refine Bel.drewN ?_ _))⟩
    · have z1 : decide (k < 0) = false := by simpa using h1
      have z2 : decide ((P.length : Int) ≤ k) = true := by rw [decide_eq_true_eq]; omega
      clear hs ht hP hW hc hk h1
      go_enter Try.func40, Try.ntmps40
      go_wp2_with ((go_at_call 44; (with_reducible refine (q1.out _ (by (try simp only [ext_ext]); repeat (first | exact Bel.refl _ | assumption | refine bel_and ?_ _ | refine bel_drews ?_ _ | refine Bel.ext ?_ _ | refine Bel.alloc ?_ _ | refine Bel.drewN ?_ _))).mono ?_); rintro e _ ⟨rfl, nx, rfl⟩))
      go_ret2
      exact ⟨none, 0, rfl, nil_ret (by (try simp only [ext_ext]); repeat (first | exact Bel.refl _ | assumption | refine bel_and ?_ _ | refine bel_drews ?_ _ | refine Bel.ext ?_ _ | refine Bel.alloc ?_ _ | refine Bel.drewN ?_ _))⟩
  obtain ⟨p, rfl⟩ : ∃ p : Nat, k = (p : Int) := ⟨k.toNat, by omega⟩
  have HF : Hid (brPath P W p = (wayI (W.length + p), 0)) := Lib.hid (by unfold brPath; rw [if_neg (by simpa using hc), if_neg hk, Int.toNat_natCast])
  rw [HF.out]
  have z1 : decide ((p : Int) < 0) = false := by rw [decide_eq_false_iff_not]; omega
  have z2 : decide ((P.length : Int) ≤ (p : Int)) = false := by rw [decide_eq_false_iff_not]; omega
  have z3 : decide (P.length ≤ p) = false := by rw [decide_eq_false_iff_not]; omega
  have z4 : ¬ (P.length ≤ p) := by omega
  have q2 := Lib.hid (fun V => way_any A B c d p P W V (by omega) hW)
  show Calls _ _ _ _ (fun e w' => ∃ A' c', e = .returned (.tuple #[.slice A' (wayI (W.length + p)).length c', .int .i64 0]) ∧ ∃ x, w' = ext w x ∧ Own (ext w x) w.heap.size 3 1 A' (wayI (W.length + p)).length c' (vi (wayI (W.length + p))))
  generalize wayI (W.length + p) = R at q2 ⊢
  clear hs ht hP hW hc hk HF
  go_enter Try.func40, Try.ntmps40
  go_wp2_with (first | (go_at_call 44; (with_reducible refine (q1.out _ (by (try simp only [ext_ext]); repeat (first | exact Bel.refl _ | assumption | refine bel_and ?_ _ | refine bel_drews ?_ _ | refine Bel.ext ?_ _ | refine Bel.alloc ?_ _ | refine Bel.drewN ?_ _))).mono ?_); rintro e _ ⟨rfl, nx, rfl⟩) | (go_at_call 85; (with_reducible refine (q2.out _).mono ?_); rintro _ _ ⟨A1, c1, rfl, x4, rfl, O1⟩))
  go_ret2
  exact ⟨A1, c1, rfl, own_ret (by (try simp only [ext_ext]); repeat (first | exact Bel.refl _ | assumption | refine bel_and ?_ _ | refine bel_drews ?_ _ | refine Bel.ext ?_ _ | refine Bel.alloc ?_ _ | refine Bel.drewN ?_ _)) O1 (by (try simp only [ext_ext]); repeat (first | exact Bel.refl _ | assumption | refine bel_and ?_ _ | refine bel_drews ?_ _ | refine Bel.ext ?_ _ | refine Bel.alloc ?_ _ | refine Bel.drewN ?_ _)) (by simp [go_sem])⟩
end Go.Proofs.Ytkcpnclgcmnlcaa

namespace Go
open RowKit
/-- a loop's record, or its deferred calls: no cells -/
def NoCells (o : Obj) : Prop := ∀ cs e f, o ≠ .cells cs e f
theorem noCells_loop (r : Loop) : NoCells (.loop r) := fun _ _ _ h => by cases h
theorem noCells_deferred (r : Option (List Deferred)) : NoCells (.deferred r) := fun _ _ _ h => by cases h
/-- blocks that are no cells, from b on, lie as they lay -/
structure Records (b : Nat) (W W' : World) : Prop where
  keep : ∀ (k : Nat) (o : Obj), b ≤ k → W.heap[k]? = some o → NoCells o → W'.heap[k]? = some o
theorem Records.refl (b : Nat) (W : World) : Records b W W := ⟨fun _ _ _ h _ => h⟩
theorem Records.trans {b : Nat} {A B D : World} (h : Records b A B) (k : Records b B D) : Records b A D := ⟨fun i o hb h1 h2 => k.keep i o hb (h.keep i o hb h1 h2) h2⟩
theorem Records.bel {b : Nat} {A B : World} (h : Bel A B) : Records b A B := ⟨fun k o _ h1 _ => by
  have hl : k < A.heap.size := (Array.getElem?_eq_some_iff.1 h1).1
  rw [h.block k hl]; exact h1⟩
section
variable {F : Fence} {n : Nat} {P : Program}
theorem callsIn_round {f : Nat} {args : Array Value} {w : World} {R : Ending → World → Prop} (l : Nat) (h : CallsIn F n P f args w R) : CallsIn (F.inRound l) n P f args w R := h
theorem calls_round {f : Nat} {args : Array Value} {w : World} {R : Ending → World → Prop} (l m : Nat) (h : Calls P f args w R) : CallsIn (Fence.wide.inRound l) m P f args w R := callsIn_round l (callsIn_wide.2 h)
/-- an iterator's value that gives the elements of xs; between two rounds it takes the world along C (its own cells); a round keeps Kp. -/
def SeqAll {α : Type} (F : Fence) (n : Nat) (P : Program) (g : Nat) (lb : Array Value) (encs : α → Array Value) (C Kp : World → World → Prop) (xs : List α) (w : World) : Prop :=
  ∀ (l : Nat) (J : List α → World → Prop) (W : World), Below w.heap.size w W → (∀ s A B, J s A → C A B → J s B) →
    (∀ pre x rest A, xs = pre ++ x :: rest → J pre A → YieldAt F (n - 1) P l (encs x) A fun e B => e = .returned (.bool true) ∧ J (pre ++ [x]) B ∧ Kp A B) →
    J [] W → CallsIn F n P g (#[.func (.yield l) #[] #[]] ++ lb) W fun e B => (∃ v, e = .returned v) ∧ J xs B
theorem wpIn_range_all {α : Type} {g : Operand} {ps : Array Tmp} {assign body : Code} {Q : Exit → Act → World → Prop} {a : Act} {w : World}
    (hro : F.round = none) (h1 : 1 ≤ n) {gf : Nat} {lb : Array Value} (hg : a.eval g = .func (.func gf) #[] lb) (hFg : F.fn gf) (eg : ∀ args w, (callFunc gf args).run P w = .ok (.enter gf args) w)
    {encs : α → Array Value} {C Kp : World → World → Prop} {xs : List α} (hseq : SeqAll F (n - 1) P gf lb encs C Kp xs w)
    (hC : ∀ A B, C A B → ∀ k, w.heap.size ≤ k → B.heap[k]? = A.heap[k]?)
    (hKt : ∀ {A B D : World}, Kp A B → Kp B D → Kp A D) (hKb : ∀ (W : World) (l : Nat) (o : Obj), w.heap.size ≤ l → Kp W (W.putObj l o)) (hps : ∀ x, (encs x).size = ps.size)
    (I : List α → World → Prop) (hIC : ∀ s A B, I s A → C A B → I s B)
    (hIp : ∀ s (A : World) (l : Nat) (o o' : Obj), I s A → w.heap.size ≤ l → A.heap[l]? = some o → NoCells o → I s (A.putObj l o'))
    (hIa : ∀ s (A : World) (o : Obj), I s A → I s (A.alloc o)) (h0 : I [] w) (a₁ : α → Act)
    (hassign : ∀ (l : Nat) (x : α) (W : World) (K : Act → World → Prop), K (a₁ x) W →
      assign.wpIn (F.inRound l) (n - 1 - 1) P (Exit.then K (fun _ _ _ => False)) { tmps := (ps.zip (encs x)).foldl (fun t (p, v) => t.setIfInBounds p v) a.tmps, defers := [] } W)
    (hbody : ∀ (l : Nat) (pre : List α) (x : α) (rest : List α) (W : World), xs = pre ++ x :: rest → I pre W →
      body.wpIn (F.inRound l) (n - 1 - 1) P (fun e _ W' => e = .normal ∧ Records w.heap.size W W' ∧ Kp W W' ∧ I (pre ++ [x]) W') (a₁ x) W)
    (hdone : ∀ (D : Nat) (W : World), w.heap.size ≤ D → I xs W → W.heap[D]? = some (.deferred (some [])) → Q .normal { a with defers := { target := .collected D, args := #[] } :: a.defers } W) :
    (Code.rangeFunc g ps assign body).wpIn F n P Q a w := by
  refine wpIn_rangeFunc ?_
  intro fn hfn
  rw [hro]
  -- the record in each of its states, and the world in which it has just been laid
  obtain ⟨rc, hrc⟩ : ∃ rc : LoopState → Loop, rc = fun st => { state := st, pending := none, fn, tmps := a.tmps, params := ps, assign, body, defers := w.heap.size } := ⟨_, rfl⟩
  obtain ⟨V, hV⟩ : ∃ V, (w.alloc (.deferred (some []))).alloc (.loop (rc .ready)) = V := ⟨_, rfl⟩
  have vl : V.heap[w.heap.size + 1]? = some (.loop (rc .ready)) := by
    have := World.alloc_heap_new (w.alloc (.deferred (some []))) (.loop (rc .ready))
    rw [World.size_alloc] at this
    rw [← hV]; exact this
  have vd : V.heap[w.heap.size]? = some (.deferred (some [])) := by
    rw [← hV]; exact (Below.heap_alloc _ _ _ (by simp)).trans (World.alloc_heap_new w _)
  have vb : Below w.heap.size w V := by rw [← hV]; exact ((Below.refl _ w).alloc (Nat.le_refl _) _).alloc (by simp) _
  have vI : I [] V := by rw [← hV]; exact hIa _ _ _ (hIa _ _ _ h0)
  refine ⟨w.heap.size + 1, [{ target := .collected w.heap.size, args := #[] }], V, { target := .fn (.func gf) lb, args := #[.func (.yield (w.heap.size + 1)) #[] #[]] }, V, gf,
    #[.func (.yield (w.heap.size + 1)) #[] #[]] ++ lb, V, ?_, ?_, ?_, ?_, fun _ => h1, ?_⟩
  · rw [← hV, hrc]; exact run_enterLoop_outer _ _ _ _ _
  · simp only [resolve, hg]
    simp [go_sem]
  · intro f hf; simp [Target.leads] at hf; rw [← hf]; exact hFg
  · simp [invoke, go_sem, eg]
  · refine (hseq (w.heap.size + 1) (fun pre W => I pre W ∧ W.heap[w.heap.size + 1]? = some (.loop (rc .ready)) ∧ W.heap[w.heap.size]? = some (.deferred (some []))) V vb
      (fun s A B h hAB => ⟨hIC s A B h.1 hAB, (hC A B hAB _ (by omega)).trans h.2.1, (hC A B hAB _ (Nat.le_refl _)).trans h.2.2⟩) ?_ ⟨vI, vl, vd⟩).mono ?_
    · rintro pre x rest W hxs ⟨hi, hl, hk⟩
      have hlt : w.heap.size + 1 < W.heap.size := (Array.getElem?_eq_some_iff.1 hl).1
      have hy := run_yield (P := P) (args := encs x) hl (by rw [hrc]; exact hps x)
      rw [hrc] at hy
      refine ⟨fn, _, assign, body, hy, roundIn_of_wpIn hfn (hassign _ x W _ ⟨_, run_beginRound hl (by rw [hrc]), ?_⟩)⟩
      obtain ⟨U, hU⟩ : ∃ U, W.putObj (w.heap.size + 1) (.loop { rc .ready with state := .busy }) = U := ⟨_, rfl⟩
      rw [hU]
      have ul : U.heap[w.heap.size + 1]? = some (.loop { rc .ready with state := .busy }) := by rw [← hU]; exact World.putObj_heap_same hlt
      have ud : U.heap[w.heap.size]? = some (.deferred (some [])) := by rw [← hU]; exact (World.putObj_heap_other (by omega)).trans hk
      have uK : Kp W U := by rw [← hU]; exact hKb _ _ _ (by omega)
      have uI : I pre U := by rw [← hU]; exact hIp _ _ _ _ _ hi (by omega) hl (noCells_loop _)
      refine wpIn_mono (hbody _ pre x rest U hxs uI) ?_
      rintro e a3 Z ⟨rfl, zk, zK, zI⟩
      have zl := zk.keep _ _ (by omega) ul (noCells_loop _)
      have zd := zk.keep _ _ (Nat.le_refl _) ud (noCells_deferred _)
      have hr := run_endRound (P := P) none zl
      rw [hrc] at hr
      refine ⟨_, _, hr, rfl, ⟨hIp _ _ _ _ _ zI (by omega) zl (noCells_loop _), ?_, ?_⟩, hKt (hKt uK zK) (hKb _ _ _ (by omega))⟩
      · rw [hrc]; exact World.putObj_heap_same (Array.getElem?_eq_some_iff.1 zl).1
      · exact (World.putObj_heap_other (by omega)).trans zd
    · rintro e Z ⟨⟨v, rfl⟩, zI, zl, zd⟩
      have he := run_endLoop (P := P) zl (by rw [hrc]; simp)
      rw [hrc] at he
      exact ⟨none, _, he, hdone _ _ (Nat.le_refl _) (hIp _ _ _ _ _ zI (by omega) zl (noCells_loop _)) ((World.putObj_heap_other (by omega)).trans zd)⟩
end
end Go

namespace Go.Proofs.Ytkcpnclgcmnlcaa
open Go.RowKit Go.Pel Go.Shelf
attribute [local go_sem] Oper.semAt_some
/-- the iterator's own step -/
def upC (b : Nat) (A B : World) : Prop := ∃ u, B = A.setCell ⟨b, 0, none⟩ u
def upK (b : Nat) (A B : World) : Prop := B.heap[b]? = A.heap[b]?
set_option maxRecDepth 100000 in
set_option maxHeartbeats 1000000 in
theorem up1_seq (b i0 : Nat) (w : World) (hi : i0 ≤ 1000000) (hb : b < w.heap.size) (hc : w.cell? ⟨b, 0, none⟩ = some (.int .i64 i0)) (hf : w.frozen? ⟨b, 0, none⟩ = false) :
    SeqAll Fence.wide 3 Try.prog 106 #[.pointer (some ⟨b, 0, none⟩)] (fun x : Int => #[.int .i64 x]) (upC b) (upK b) (wayI i0) w := by
  intro l J W hW hJ hY h0
  have hc0 : W.cell? ⟨b, 0, none⟩ = some (.int .i64 i0) := (hW.cell (p := ⟨b, 0, none⟩) hb).trans hc
  have hf0 : W.frozen? ⟨b, 0, none⟩ = false := by
    rw [← hf]; exact World.frozen?_of_block (hW.block _ hb)
  clear hc hf hb
  refine callsIn_of_wp Try.func106 rfl trivial ?_ rfl
  simp only [Try.ntmps106, List.size_toArray, List.length_cons, List.length_nil, Nat.reduceAdd, Nat.reduceSub, Array.replicate_succ, Array.replicate_zero, List.push_toArray, List.append_toArray, List.nil_append, List.cons_append]
  gi_wp2
  have HI := Lib.hid hi
  clear hi
  gi_loopw [] (fun wr => ∃ (q : Nat) (pre : List Int), wr.cell? ⟨b, 0, none⟩ = some (.int .i64 q) ∧ wr.frozen? ⟨b, 0, none⟩ = false ∧ pre ++ wayI q = wayI i0 ∧ J pre wr ∧ q ≤ 1000000) (fun wr => match wr.cell? ⟨b, 0, none⟩ with | some v => (intOf v).toNat | none => 0)
  case atStart => exact ⟨i0, [], hc0, hf0, rfl, h0, HI.out⟩
  case round =>
    obtain ⟨q, pre, hc, hf, hx, hj, hq⟩ := hrel
    clear hc0 hf0 h0 hW
    cases q with
    | zero =>
      obtain rfl : pre = wayI i0 := by rw [wayI_zero, List.append_nil] at hx; exact hx
      have z1 : decide ((0 : Int) < ((0 : Nat) : Int)) = false := by decide
      clear hx hY hJ
      gi_wp2
      go_end0
      exact ⟨⟨_, rfl⟩, hj⟩
    | succ j =>
      have z1 : decide ((0 : Int) < ((j + 1 : Nat) : Int)) = true := by rw [decide_eq_true_eq]; omega
      have e2 : IntKind.i64.wrap (((j + 1 : Nat) : Int) - 1) = (j : Int) := by rw [IntWalk.i64_in _ (by omega)]; omega
      obtain ⟨x, hxe⟩ : ∃ x : Int, (j : Int) / 2 = x := ⟨_, rfl⟩
      have hx2 : ((j / 2 : Nat) : Int) = x := by omega
      have hxs : wayI i0 = pre ++ x :: wayI (j / 2) := by rw [← hx, wayI_succ, hx2]
      have hJ2 := hJ pre wr (wr.setCell ⟨b, 0, none⟩ (.int .i64 x)) hj ⟨_, rfl⟩
      have hc2 : (wr.setCell ⟨b, 0, none⟩ (.int .i64 x)).cell? ⟨b, 0, none⟩ = some (.int .i64 x) := by simp [go_sem, hc]
      have hf2 : (wr.setCell ⟨b, 0, none⟩ (.int .i64 x)).frozen? ⟨b, 0, none⟩ = false := by simp [go_sem, hf]
      obtain ⟨fn, tmps, assign, body, hy, hR⟩ := hY pre x (wayI (j / 2)) _ hxs hJ2
      have HX := Lib.hid hx
      have HX2 := Lib.hid hx2
      have HXS := Lib.hid hxs
      have HY := Lib.hid hY
      have HJ := Lib.hid hJ
      have HQ := Lib.hid hq
      have w1 : wrap64 (j : Int) = (j : Int) := IntWalk.wrap64_in _ (by omega)
      have w2 : (j : Int).tdiv 2 = x := by rw [← hxe]; exact Int.tdiv_eq_ediv_of_nonneg (by omega)
      have w3 : wrap64 x = x := IntWalk.wrap64_in _ (by omega)
      clear hx hx2 hxs hq hY hJ hxe
      gi_wp2
      refine hR.mono ?_
      rintro e W3 ⟨rfl, hJ3, hk3⟩
      have hc3 : W3.cell? ⟨b, 0, none⟩ = some (.int .i64 x) := (World.cell?_of_block (a := ⟨b, 0, none⟩) hk3).trans hc2
      have hf3 : W3.frozen? ⟨b, 0, none⟩ = false := (World.frozen?_of_block (a := ⟨b, 0, none⟩) hk3).trans hf2
      gi_wp2
      go_roundw
      case rel => exact ⟨j / 2, pre ++ [x], by rw [HX2.out]; exact hc3, hf3, by rw [HXS.out, List.append_assoc]; rfl, hJ3, by have := HQ.out; omega⟩
      case measure => rw [hc3, hc]; have := HX2.out; simp [intOf]; omega
theorem up_any (i : Nat) (w : World) : Calls Try.prog 78 #[.int .i64 i] w fun e w' => e = .returned (.func (.func 106) #[] #[.pointer (some ⟨w.heap.size, 0, none⟩)]) ∧ w' = w.alloc (.cells #[.int .i64 i] 3) := by
  go_enter Try.func78, Try.ntmps78
  go_wp2
  go_ret
  exact ⟨rfl, rfl⟩
end Go.Proofs.Ytkcpnclgcmnlcaa

namespace Go
open RowKit
section
variable {F : Fence} {n : Nat} {P : Program}
theorem wpListIn_append_m {w : World} {ops : Array Oper} {rest : List Oper} {o : Oper} {a : Act} {Q : Exit → Act → World → Prop}
    {t e : TypeId} {z : Value} {size bytes : Nat} (hT : SlT P t e z size bytes) (hg : o.guard = none) (s x : Operand) (ho : o.op = .call { callee := .builtin .append, args := #[s, x], argTypes := #[t, t] })
    {base : Nat} {A : Option Addr} {k c : Nat} {xs : List Value} (hown : Own w base e size A k c xs) {cs : Array Value} {e' : TypeId} (h1 : ∀ u ∈ cs.toList, u.oneCell' = true) (hsz : cs.size = size) (hlen : k + 1 ≤ 4294967296) (hb : base ≤ w.heap.size) {g : Nat}
    (hs : a.eval s = .slice A k c) (hx : a.eval x = .slice (some ⟨g, 0, none⟩) 1 1) (hgw : g = w.heap.size)
    (h : ∀ A' c' w', Own w' base e size A' (k + 1) c' (xs ++ cs.toList) → (w.alloc (.cells cs e')).grownBy w' (Value.slice A k c).ownBlock → w.drawn ≤ w'.drawn → wpListIn F n P ops Q rest (a.put o.dst (.slice A' (k + 1) c')) w') :
    wpListIn F n P ops Q (o :: rest) a (w.alloc (.cells cs e')) := by
  obtain ⟨i, hi, hz0, hz1, hz2⟩ := info_parts hT.info
  have hby : (k + 1) * bytes ≤ 140737488355328 := Nat.le_trans (Nat.mul_le_mul hlen hT.small) (by decide)
  have hsrc := sl_new w cs e' size g hgw hsz
  refine wpListIn_plain hg fun K hK => ?_
  obtain ⟨v', w', hr, h2, h3, h4⟩ := run_append_own (P := P) (w := w.alloc (.cells cs e')) base t o.type e i z size bytes hT.und hi hz0 hz1 hz2 hT.zs hT.pos _ k xs (hown.alloc _) ⟨g, 0, none⟩ 1 1 cs.toList hsrc.len
    (fun j u hu => by have hj := hsrc.cell hu; unfold Addr.add; split <;> first | exact hj | (rename_i h0; rw [h0] at hj; exact hj)) h1 (Nat.le_trans hlen (by unfold maxLen; decide)) hby (by simp; omega)
  have hm := run_mono _ _ _ _ hr
  have hv : ∃ A' c', v' = .slice A' (k + 1) c' := by
    rcases h2.2 with ⟨hv, hn⟩ | ⟨q, cap, cur, hv, _⟩
    · omega
    · exact ⟨_, _, hv⟩
  obtain ⟨A', c', rfl⟩ := hv
  unfold Oper.wpIn
  refine ⟨?_, ?_⟩
  · simp [Oper.about, ho, resolve, Target.leads, Sem.run_pure]
  · rw [Oper.semAt_plain F _ _ (by rw [ho]; intro c hc'; cases hc')]
    simp [execOp, ho, resolve, invoke, builtin, hs, hx, hr, Result.andThen]
    exact hK _ _ (h A' c' w' h2 h3 hm)
end
theorem grownBy_put (W : World) (l : Nat) (o : Obj) : W.grownBy (W.putObj l o) (some l) := ⟨rfl, rfl, rfl, by simp, fun k _ hk => World.putObj_heap_other (fun e => hk (by rw [e]))⟩
theorem Bel.putObj {wB W : World} (h : Bel wB W) {l : Nat} (hl : wB.heap.size ≤ l) (o : Obj) : Bel wB (W.putObj l o) :=
  h.grown (grownBy_put W l o) (fun k hk => by cases hk; exact hl) (Nat.le_refl _)
end Go
namespace Go.Proofs.Ytkcpnclgcmnlcaa
open Go.RowKit Go.Pel Go.Shelf
attribute [local go_sem] Oper.semAt_some
/-- between two rounds of AppendSeq: the box, the row, what lay before -/
def CollI (wB : World) (s : Nat) (pre : List Int) (V : World) : Prop :=
  (∃ A c, Box V s #[.slice A pre.length c] ∧ Own V (s + 1) 3 1 A pre.length c (vi pre)) ∧ Bel wB V ∧ s < V.heap.size
theorem own_put {V : World} {base l : Nat} {o o' : Obj} {e : TypeId} {size n c : Nat} {A : Option Addr} {xs : List Value} (h : Own V base e size A n c xs) (hl : V.heap[l]? = some o) (ho : NoCells o) : Own (V.putObj l o') base e size A n c xs := by
  obtain ⟨h1, h2⟩ := h
  refine ⟨h1, ?_⟩
  rcases h2 with h2 | ⟨g, cap, cur, hv, hg, hh, r⟩
  · exact .inl h2
  · have hne : g ≠ l := by rintro rfl; rw [hh] at hl; injection hl with hl; exact ho _ _ _ hl.symm
    exact .inr ⟨g, cap, cur, hv, hg, by rw [World.putObj_heap_other hne]; exact hh, r⟩
theorem box_put {V : World} {s l : Nat} {o' : Obj} {cs : Array Value} (h : Box V s cs) (hne : s ≠ l) : Box (V.putObj l o') s cs := by
  have hh : (V.putObj l o').heap[s]? = V.heap[s]? := World.putObj_heap_other hne
  exact ⟨by rw [World.putObj_size]; exact h.lt, fun j v hv => by rw [← h.eq j v hv]; exact World.cell?_of_block hh, fun j => by rw [← h.fr j]; exact World.frozen?_of_block hh⟩
theorem collI_put {wB V : World} {s l : Nat} {o o' : Obj} {pre : List Int} (h : CollI wB s pre V) (hs : s < l) (hwl : wB.heap.size ≤ l) (hl : V.heap[l]? = some o) (ho : NoCells o) : CollI wB s pre (V.putObj l o') := by
  obtain ⟨⟨A, c, hB, hO⟩, hb, hlt⟩ := h
  exact ⟨⟨A, c, box_put hB (by omega), own_put hO hl ho⟩, hb.putObj hwl o', by rw [World.putObj_size]; exact hlt⟩
theorem collI_alloc {wB V : World} {s : Nat} {pre : List Int} (h : CollI wB s pre V) (o : Obj) : CollI wB s pre (V.alloc o) := by
  obtain ⟨⟨A, c, hB, hO⟩, hb, hlt⟩ := h
  exact ⟨⟨A, c, hB.alloc, hO.alloc o⟩, hb.alloc o, by simp; omega⟩
theorem collI_C {wB V V' : World} {s b : Nat} {pre : List Int} (h : CollI wB s pre V) (hwb : wB.heap.size ≤ b) (hbs : b < s) (hC : upC b V V') : CollI wB s pre V' := by
  obtain ⟨u, rfl⟩ := hC
  obtain ⟨⟨A, c, hB, hO⟩, hb, hlt⟩ := h
  exact ⟨⟨A, c, hB.other 0 u (by omega), own_others hO 0 u (fun q hq => by rw [hq] at hO; have := own_ge hO; omega)⟩, hb.setCell (p := ⟨b, 0, none⟩) hwb u, by simpa using hlt⟩
theorem coll_same {W Z : World} {cs : Array Value} {e e' : TypeId} {base n c size k : Nat} {A : Option Addr} {xs : List Value} (hg : (W.alloc (.cells cs e')).grownBy Z (Value.slice A n c).ownBlock) (hO : Own W base e size A n c xs) (hk : k < W.heap.size) (hb : k < base) : Z.heap[k]? = W.heap[k]? := by
  rw [hg.block k (by simp; omega) (fun he => by
    rcases hO.block with h0 | ⟨q, h0, h1, _⟩
    · rw [h0] at he; cases he
    · rw [h0] at he; injection he with he; omega)]
  unfold World.alloc
  simp only [Array.getElem?_push]
  rw [if_neg (by omega)]
theorem coll_records {W Z : World} {cs : Array Value} {e e' : TypeId} {base n c size s B : Nat} {A : Option Addr} {xs : List Value} {u : Value} (hg : (W.alloc (.cells cs e')).grownBy Z (Value.slice A n c).ownBlock) (hO : Own W base e size A n c xs) (hs : s < B) : Records B W (Z.setCell ⟨s, 0, none⟩ u) := by
  refine ⟨fun k o hk h1 h2 => ?_⟩
  have hl : k < W.heap.size := (Array.getElem?_eq_some_iff.1 h1).1
  rw [heap_other (by omega), hg.block k (by simp; omega) (fun he => by
    rcases hO.2 with ⟨hv, _⟩ | ⟨g, cap, cur, hv, _, hh, _⟩
    · rw [hv] at he; cases he
    · rw [hv] at he; injection he with he; rw [← show k = g from he, h1] at hh; injection hh with hh; exact h2 _ _ _ hh)]
  unfold World.alloc
  simp only [Array.getElem?_push]
  rw [if_neg (by omega)]; exact h1
theorem box_set1 {Z : World} {s : Nat} {u : Value} (v : Value) (h : Box Z s #[u]) : Box (Z.setCell ⟨s, 0, none⟩ v) s #[v] := by
  have h0 := h.eq 0 u rfl
  refine ⟨by simpa using h.lt, fun j w hw => ?_, fun j => ?_⟩
  · have hj : j = 0 := by have := (Array.getElem?_eq_some_iff.1 hw).1; simp at this; omega
    subst hj
    simp at hw
    subst hw
    simp [go_sem, h0]
  · rw [World.frozen?_setCell]; exact h.fr j
theorem box_block {W Z : World} {s : Nat} {cs : Array Value} (h : Box W s cs) (hb : Z.heap[s]? = W.heap[s]?) (hl : W.heap.size ≤ Z.heap.size) : Box Z s cs :=
  ⟨by have := h.lt; omega, fun j v hv => by rw [← h.eq j v hv]; exact World.cell?_of_block hb, fun j => by rw [← h.fr j]; exact World.frozen?_of_block hb⟩
set_option maxRecDepth 100000 in
set_option maxHeartbeats 1000000 in
theorem appendSeq_any (b i0 : Nat) (wB w : World) (hi : i0 ≤ 1000000) (hwB : Bel wB w) (hwb : wB.heap.size ≤ b) (hb : b < w.heap.size) (hc : w.cell? ⟨b, 0, none⟩ = some (.int .i64 i0)) (hf : w.frozen? ⟨b, 0, none⟩ = false) :
    Calls Try.prog 108 #[.slice none 0 0, .func (.func 106) #[] #[.pointer (some ⟨b, 0, none⟩)]] w fun e w' => ∃ A c, e = .returned (.slice A (wayI i0).length c) ∧ Bel wB w' ∧ Own w' w.heap.size 3 1 A (wayI i0).length c (vi (wayI i0)) := by
  have hlen := wayI_len i0
  refine (callsIn_wide (n := 4)).1 ?_
  refine callsIn_of_wp_marks Try.func108 rfl trivial ?_ rfl
  simp only [Try.ntmps108, List.size_toArray, List.length_cons, List.length_nil, Nat.reduceAdd, Nat.reduceSub, Array.replicate_succ, Array.replicate_zero, List.push_toArray, List.append_toArray, List.nil_append, List.cons_append]
  gi_wp2
  have hupc : ∀ args w, (callFunc 106 args).run Try.prog w = .ok (.enter 106 args) w := enters_of Try.func106 (by kernel_rfl) rfl
  obtain ⟨s, hs⟩ : ∃ s, w.heap.size = s := ⟨_, rfl⟩
  obtain ⟨V, hV⟩ : ∃ V, w.alloc (.cells #[.slice none 0 0] 45) = V := ⟨_, rfl⟩
  have hVs : V.heap.size = s + 1 := by rw [← hV]; simp [hs]
  have hI0 : CollI wB s [] V := ⟨⟨none, 0, by rw [← hV]; exact Box.here hs.symm, Own.nil_ _ _ _ _⟩, by rw [← hV]; exact hwB.alloc _, by omega⟩
  have hseq := up1_seq b i0 V hi (by omega) (by rw [← hV]; simp [go_sem, hb, hc]) (by rw [← hV]; simp [go_sem, hb, hf])
  have hsB : wB.heap.size ≤ s := by have := hwB.le; omega
  rw [hs, hV]
  rw [hs] at hb
  clear hV hc hf hwB
  refine wpIn_range_all (F := Fence.wide) (n := 4) rfl (by decide) (gf := 106) (lb := #[.pointer (some ⟨b, 0, none⟩)]) rfl trivial hupc hseq
    (fun A B hC k hk => by obtain ⟨u, rfl⟩ := hC; exact heap_other (by omega))
    (fun h k => k.trans h) (fun W l o hl => World.putObj_heap_other (by omega)) (fun _ => rfl)
    (CollI wB s) (fun p A B h hC => collI_C h hwb hb hC) (fun p A l o o' h hl ho hn => collI_put h (by omega) (by omega) ho hn) (fun p A o h => collI_alloc h o) hI0
    (fun x => { tmps := #[.slice none 0 0, .func (.func 106) #[] #[.pointer (some ⟨b, 0, none⟩)], .pointer (some ⟨s, 0, none⟩), undef, .slice none 0 0, .int .i64 x, .func (.func 106) #[] #[.pointer (some ⟨b, 0, none⟩)], .int .i64 x, undef, undef, undef, undef, undef], defers := [] }) ?assign ?body ?done
  case assign =>
    intro l x W K hK
    gi_wp2
    exact hK
  case body =>
    rintro l pre x rest W hxs ⟨⟨A, c, hB, hO⟩, hbw, hlt⟩
    have hpl : pre.length ≤ 1000000 := by have := congrArg List.length hxs; simp at this; omega
    have xe0 := hB.eq 0 (.slice A pre.length c) rfl
    have xf0 := hB.fr 0
    gi_wp2_with (gi_at_builtin; refine wpListIn_append_m slt_ints rfl _ _ rfl hO (by simp [Value.oneCell']) rfl (by omega) (by omega) rfl rfl (by simp [go_sem]) ?_; rintro A6 c6 Z hO6 hg6 hm6; have hzb := coll_same hg6 hO (k := s) hlt (Nat.lt_succ_self s); have hz1 : Z.cell? ⟨s, 0, none⟩ = some (.slice A pre.length c) := (World.cell?_of_block (a := ⟨s, 0, none⟩) hzb).trans xe0; have hz2 : Z.frozen? ⟨s, 0, none⟩ = false := (World.frozen?_of_block (a := ⟨s, 0, none⟩) hzb).trans xf0)
    have hsz6 : W.heap.size ≤ Z.heap.size := by have := hg6.size; simp at this; omega
    have hbz : Bel wB Z := (hbw.alloc _).grown hg6 (fun k hk => by
      rcases hO.block with h0 | ⟨q, h0, h1, _⟩
      · rw [h0] at hk; cases hk
      · rw [h0] at hk; injection hk with hk; omega) hm6
    refine ⟨coll_records hg6 hO (by omega), (heap_other (by omega)).trans (coll_same hg6 hO (by omega) (by omega)), ⟨A6, c6, ?_, ?_⟩, hbz.setCell (p := ⟨s, 0, none⟩) hsB _, by simp; omega⟩
    · rw [List.length_append, List.length_singleton]; exact box_set1 _ (box_block hB hzb hsz6)
    · rw [List.length_append, List.length_singleton]
      have hv : vi (pre ++ [x]) = vi pre ++ #[Value.int IntKind.i64 x].toList := by simp [vi]
      rw [hv]
      exact own_others hO6 0 _ (fun q hq => by rw [hq] at hO6; have := own_ge hO6; omega)
  case done =>
    rintro D W hD ⟨⟨A, c, hB, hO⟩, hbw, hlt⟩ hK
    have xe0 := hB.eq 0 (.slice A (wayI i0).length c) rfl
    gi_wp2
    refine ⟨by simp, .inl ⟨_, _, rfl, run_takeDeferred hK, ?_⟩⟩
    refine ⟨_, results_tmp rfl _ _ _, A, c, rfl, hbw.putObj (by omega) _, ?_⟩
    rw [hs]
    exact (own_put hO hK (noCells_deferred _)).base_le (by omega)
end Go.Proofs.Ytkcpnclgcmnlcaa

namespace Go.Proofs.Ytkcpnclgcmnlcaa
open Go.RowKit Go.Pel
set_option maxRecDepth 10000 in
theorem collect_any (b i0 : Nat) (wB w : World) (hi : i0 ≤ 1000000) (hwB : Bel wB w) (hwb : wB.heap.size ≤ b) (hb : b < w.heap.size) (hc : w.cell? ⟨b, 0, none⟩ = some (.int .i64 i0)) (hf : w.frozen? ⟨b, 0, none⟩ = false) :
    Calls Try.prog 84 #[.func (.func 106) #[] #[.pointer (some ⟨b, 0, none⟩)]] w fun e w' => ∃ A c, e = .returned (.slice A (wayI i0).length c) ∧ Bel wB w' ∧ Own w' w.heap.size 3 1 A (wayI i0).length c (vi (wayI i0)) := by
  have q := Lib.hid (appendSeq_any b i0 wB w hi hwB hwb hb hc hf)
  clear hi hwB hwb hb hc hf
  generalize wayI i0 = R at q ⊢
  go_enter Try.func84, Try.ntmps84
  go_wp2_with (go_at_call 108; (with_reducible refine q.out.mono ?_); rintro _ Z ⟨A, c, rfl, hB, hO⟩)
  go_ret
  exact ⟨A, c, rfl, hB, hO⟩
set_option maxRecDepth 10000 in
set_option maxHeartbeats 4000000 in
theorem bpath_any (A B : Option Addr) (c d : Nat) (P W : List Int) (k : Int) (w : World) (hs : Sl w 1 A P.length c (vi P)) (ht : Sl w 1 B W.length d (vi W)) (hP : P.length ≤ 1000) (hW : W.length ≤ 1000) (hf : ∀ x ∈ P, wf64 x) :
    Calls Try.prog 39 #[.agg #[.slice A P.length c, .slice B W.length d], .int .i64 k] w fun e w' => ∃ A' c', e = .returned (.tuple #[.slice A' (brPath P W k).1.length c', .int .i64 (brPath P W k).2]) ∧ ∃ x, w' = ext w x ∧ Own (ext w x) w.heap.size 3 1 A' (brPath P W k).1.length c' (vi (brPath P W k).1) := by
  have q1 := Lib.hid (fun V hb => bcheck_any A B c d P W V (hs.bel (w' := V) hb) (ht.bel hb) hP hW hf)
  by_cases hc : brChk P W = 0
  case neg =>
    have h8 : brChk P W = 8 := by rcases brChk_cases P W with h1 | h1; exact absurd h1 hc; exact h1
    have HF : Hid (brPath P W k = ([], 8)) := Lib.hid (by unfold brPath; rw [if_pos hc])
    rw [h8] at q1
    rw [HF.out]
    clear hs ht hP hW hc h8 hf
    go_enter Try.func39, Try.ntmps39
    go_wp2_with ((go_at_call 43; (with_reducible refine (q1.out _ (by (try simp only [ext_ext]); repeat (first | exact Bel.refl _ | assumption | refine bel_and ?_ _ | refine bel_drews ?_ _ | refine Bel.ext ?_ _ | refine Bel.alloc ?_ _ | refine Bel.drewN ?_ _))).mono ?_); rintro e _ ⟨rfl, nx, rfl⟩))
    go_ret2
    exact ⟨none, 0, rfl, nil_ret (by (try simp only [ext_ext]); repeat (first | exact Bel.refl _ | assumption | refine bel_and ?_ _ | refine bel_drews ?_ _ | refine Bel.ext ?_ _ | refine Bel.alloc ?_ _ | refine Bel.drewN ?_ _))⟩
  rw [hc] at q1
  by_cases hk : k < 0 ∨ (P.length : Int) ≤ k
  case pos =>
    have HF : Hid (brPath P W k = ([], 2)) := Lib.hid (by unfold brPath; rw [if_neg (by simpa using hc), if_pos hk])
    rw [HF.out]
    by_cases h1 : k < 0
    · have z1 : decide (k < 0) = true := by simpa using h1
      clear hs ht hP hW hc hk h1 hf
      go_enter Try.func39, Try.ntmps39
      go_wp2_with ((go_at_call 43; (with_reducible refine (q1.out _ (by (try simp only [ext_ext]); repeat (first | exact Bel.refl _ | assumption | refine bel_and ?_ _ | refine bel_drews ?_ _ | refine Bel.ext ?_ _ | refine Bel.alloc ?_ _ | refine Bel.drewN ?_ _))).mono ?_); rintro e _ ⟨rfl, nx, rfl⟩))
      go_ret2
      exact ⟨none, 0, rfl, nil_ret (by (try simp only [ext_ext]); repeat (first | exact Bel.refl _ | assumption | refine bel_and ?_ _ | refine bel_drews ?_ _ | refine Bel.ext ?_ _ | refine Bel.alloc ?_ _ | refine Bel.drewN ?_ _))⟩
    · have z1 : decide (k < 0) = false := by simpa using h1
      have z2 : decide ((P.length : Int) ≤ k) = true := by rw [decide_eq_true_eq]; omega
      clear hs ht hP hW hc hk h1 hf
      go_enter Try.func39, Try.ntmps39
      go_wp2_with ((go_at_call 43; (with_reducible refine (q1.out _ (by (try simp only [ext_ext]); repeat (first | exact Bel.refl _ | assumption | refine bel_and ?_ _ | refine bel_drews ?_ _ | refine Bel.ext ?_ _ | refine Bel.alloc ?_ _ | refine Bel.drewN ?_ _))).mono ?_); rintro e _ ⟨rfl, nx, rfl⟩))
      go_ret2
      exact ⟨none, 0, rfl, nil_ret (by (try simp only [ext_ext]); repeat (first | exact Bel.refl _ | assumption | refine bel_and ?_ _ | refine bel_drews ?_ _ | refine Bel.ext ?_ _ | refine Bel.alloc ?_ _ | refine Bel.drewN ?_ _))⟩
  obtain ⟨p, rfl⟩ : ∃ p : Nat, k = (p : Int) := ⟨k.toNat, by omega⟩
  have HF : Hid (brPath P W p = (wayI (W.length + p), 0)) := Lib.hid (by unfold brPath; rw [if_neg (by simpa using hc), if_neg hk, Int.toNat_natCast])
  rw [HF.out]
  have z1 : decide ((p : Int) < 0) = false := by rw [decide_eq_false_iff_not]; omega
  have z2 : decide ((P.length : Int) ≤ (p : Int)) = false := by rw [decide_eq_false_iff_not]; omega
  have z3 : decide (P.length ≤ p) = false := by rw [decide_eq_false_iff_not]; omega
  have z4 : ¬ (P.length ≤ p) := by omega
  have e1 : IntKind.i64.wrap ((W.length : Int) + (p : Int)) = ((W.length + p : Nat) : Int) := by rw [IntWalk.i64_in _ (by omega)]; omega
  obtain ⟨i0, hi0⟩ : ∃ i0, W.length + p = i0 := ⟨_, rfl⟩
  have hi : i0 ≤ 1000000 := by omega
  rw [hi0] at e1
  show Calls _ _ _ _ (fun e w' => ∃ A' c', e = .returned (.tuple #[.slice A' (wayI (W.length + p)).length c', .int .i64 0]) ∧ ∃ x, w' = ext w x ∧ Own (ext w x) w.heap.size 3 1 A' (wayI (W.length + p)).length c' (vi (wayI (W.length + p))))
  rw [hi0]
  have q2 := Lib.hid (fun V => up_any i0 V)
  have q3 := Lib.hid (fun (V : World) (g : Nat) (hg : g = V.heap.size) => hg ▸ collect_any V.heap.size i0 V (V.alloc (.cells #[.int .i64 i0] 3)) hi ((Bel.refl V).alloc _) (Nat.le_refl _) (by simp) (by simp [go_sem]) (by simp [go_sem]))
  generalize wayI i0 = R at q3 ⊢
  clear hs ht hP hW hc hk HF hf hi0 hi
  go_enter Try.func39, Try.ntmps39
  go_wp2_with (first | (go_at_call 43; (with_reducible refine (q1.out _ (by (try simp only [ext_ext]); repeat (first | exact Bel.refl _ | assumption | refine bel_and ?_ _ | refine bel_drews ?_ _ | refine Bel.ext ?_ _ | refine Bel.alloc ?_ _ | refine Bel.drewN ?_ _))).mono ?_); rintro e _ ⟨rfl, n1, rfl⟩) | (go_at_call 78; (with_reducible refine (q2.out _).mono ?_); rintro _ _ ⟨rfl, rfl⟩) | (go_at_call 84; (with_reducible refine (q3.out _ _ (by simp [go_sem])).mono ?_); rintro _ Z ⟨A1, c1, rfl, hB, hO⟩))
  go_ret2
  have hb : Bel w Z := Bel.trans (by (try simp only [ext_ext]); repeat (first | exact Bel.refl _ | assumption | refine bel_and ?_ _ | refine bel_drews ?_ _ | refine Bel.ext ?_ _ | refine Bel.alloc ?_ _ | refine Bel.drewN ?_ _)) hB
  have hle := hb.le
  obtain ⟨x, rfl⟩ := ext_of hb
  exact ⟨A1, c1, rfl, x, rfl, hO.base_le (by first | omega | (simp; omega))⟩
end Go.Proofs.Ytkcpnclgcmnlcaa

namespace Go.Proofs.Ytkcpnclgcmnlcaa
open Go.ChangeShapes Go.WideShapes Go.ChangeAt Go.RowKit Go.Pel Go.Deep
section
variable {H : Type} {enc : TypeId × Value → H} {w : World} {base : Nat} {spare : Nat → Bool} {held : Bool}
theorem cellsB_bracket : Try.prog.cellsOf 47 = 2 := by kernel_rfl
theorem cellsB_ints : Try.prog.cellsOf 45 = 1 := by kernel_rfl
theorem ints_read (fuel : Nat) (l : List Value) (x : DataW H × List MemPlace) (h : DataW.trod enc Try.prog w base spare held fuel 3 l = some x) (hl : l.length = 1) : ∃ i : Int, l = [.int .i64 i] ∧ wf64 i := by
  obtain ⟨c0, rfl⟩ := list1 l hl
  obtain ⟨i, e, w4⟩ := int_cell Try.underlying3 h
  exact ⟨i, e, by have := wf_i64 w4; unfold wf64; omega⟩
theorem vi_flat (l : List Int) : l.flatMap (fun x => [Value.int .i64 x]) = vi l := by
  induction l with
  | nil => rfl
  | cons x l ih => rw [List.flatMap_cons, ih]; rfl
theorem arg_ints {fuel : Nat} {A : Option Addr} {n c : Nat} {x : DataW H × List MemPlace} (h : DataW.trod enc Try.prog w base (fun _ => true) held fuel 45 [Value.slice A n c] = some x) :
    ∃ l : List Int, l.length = n ∧ Sl w 1 A l.length c (vi l) ∧ (∀ i ∈ l, wf64 i) ∧ (A = none → c = 0) := by
  obtain ⟨l, h1, h2, h3, h4, _⟩ := arg_slice (fun x : Int => [Value.int .i64 x]) wf64 Try.underlying45 cellsF_int (by decide) (fun _ => rfl) ints_read h
  rw [vi_flat] at h2
  exact ⟨l, h1, h2, h3, h4⟩
theorem ints_cells {fuel : Nat} {l : List Value} {x : DataW H × List MemPlace} (h : DataW.trod enc Try.prog w base (fun _ => true) held fuel 45 l = some x) (hl : l.length = 1) :
    ∃ (A : Option Addr) (c : Nat) (m : List Int), l = [.slice A m.length c] ∧ Sl w 1 A m.length c (vi m) ∧ (A = none → c = 0) ∧ ∀ i ∈ m, wf64 i := by
  obtain ⟨c0, rfl⟩ := list1 l hl
  obtain ⟨A, n, c, rfl⟩ : ∃ A n c, c0 = Value.slice A n c := by
    rcases open_slice Try.underlying45 h with ⟨hcs, _⟩ | ⟨a, len, cap, m, q, D, Pl, hcs, _⟩
    · simp only [List.cons.injEq, and_true] at hcs; exact ⟨_, _, _, hcs⟩
    · simp only [List.cons.injEq, and_true] at hcs; exact ⟨_, _, _, hcs⟩
  obtain ⟨m, rfl, h2, h3, h4⟩ := arg_ints h
  exact ⟨A, c, m, rfl, h2, h4, h3⟩
theorem bracket_cells {fuel : Nat} {l : List Value} {x : DataW H × List MemPlace} (h : DataW.trod enc Try.prog w base (fun _ => true) held fuel 47 l = some x) (hl : l.length = 2) :
    ∃ (A : Option Addr) (c : Nat) (P : List Int) (B : Option Addr) (d : Nat) (W : List Int), l = [.slice A P.length c, .slice B W.length d] ∧ Sl w 1 A P.length c (vi P) ∧ (A = none → c = 0) ∧ (∀ i ∈ P, wf64 i) ∧ Sl w 1 B W.length d (vi W) ∧ (B = none → d = 0) ∧ ∀ i ∈ W, wf64 i := by
  obtain ⟨c0, c1, rfl⟩ := list2 l hl
  obtain ⟨m0, y0, h0⟩ := field_at Try.underlying47 h (i := 0) rfl rfl rfl cellsB_ints
  obtain ⟨m1, y1, h1⟩ := field_at Try.underlying47 h (i := 1) rfl rfl rfl cellsB_ints
  have h0' : DataW.trod enc Try.prog w base (fun _ => true) held m0 45 [c0] = some y0 := by simpa using h0
  have h1' : DataW.trod enc Try.prog w base (fun _ => true) held m1 45 [c1] = some y1 := by simpa using h1
  obtain ⟨A, c, P, e1, a1, a2, a3⟩ := ints_cells h0' rfl
  obtain ⟨B, d, W, e2, b1, b2, b3⟩ := ints_cells h1' rfl
  simp at e1 e2
  subst e1 e2
  exact ⟨A, c, P, B, d, W, rfl, a1, a2, a3, b1, b2, b3⟩
end
end Go.Proofs.Ytkcpnclgcmnlcaa
