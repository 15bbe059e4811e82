/- Slices in memory, over worlds 'ext w x': what a slice reads as (Sl), a slice of the call's own (Own); append and make. -/
import Derived.Test.YtkcpnclgcmnlcaaRegC
import Derived.Test.YtkcpnclgcmnlcaaMono
import Derived.ArgAppend
import Derived.Laws.AppendOwnNone
set_option linter.unusedSimpArgs false
set_option linter.unusedVariables false
namespace Go
open RowKit
/-- '.slice A n c' reads as the cells xs (size cells an element), in blocks of w. -/
def Sl (w : World) (size : Nat) (A : Option Addr) (n c : Nat) (xs : List Value) : Prop :=
  n ≤ c ∧ xs.length = n * size ∧ (0 < n → ∃ b o, A = some ⟨b, o, none⟩ ∧ b < w.heap.size ∧ ∀ j u, xs[j]? = some u → w.cell? ⟨b, o + j, none⟩ = some u)
/-- .. of the call's own, from block 'base' on: it may be written and appended to. -/
def Own (w : World) (base : Nat) (e : TypeId) (size : Nat) (A : Option Addr) (n c : Nat) (xs : List Value) : Prop := w.ownsRow base e size (.slice A n c) n xs
/-- What the program's table says of a slice type. -/
structure SlT (P : Program) (t e : TypeId) (z : Value) (size bytes : Nat) : Prop where
  und : P.underlying t = some (.slice e)
  info : (P.info? e).map (fun i => (i.zero, i.size, i.bytes)) = some (some z, size, bytes)
  zs : z.cells.size = size
  pos : 0 < size
  small : bytes ≤ 1024

section
variable {w : World} {size n c : Nat} {A : Option Addr} {xs : List Value}
theorem Sl.len (h : Sl w size A n c xs) : xs.length = n * size := h.2.1
theorem Sl.cap (h : Sl w size A n c xs) : n ≤ c := h.1
theorem Sl.ext (h : Sl w size A n c xs) (x : Beyond) : Sl (ext w x) size A n c xs :=
  ⟨h.1, h.2.1, fun hn => by
    obtain ⟨b, o, rfl, hb, hc⟩ := h.2.2 hn
    exact ⟨b, o, rfl, by rw [size_ext]; omega, fun j u hu => by rw [cell_ext w x b _ hb]; exact hc j u hu⟩⟩
theorem Sl.bel {w' : World} (h : Sl w size A n c xs) (hb : Bel w w') : Sl w' size A n c xs := by
  obtain ⟨x, rfl⟩ := ext_of hb; exact h.ext x
theorem Sl.nil_ (w : World) (size c : Nat) (A : Option Addr) : Sl w size A 0 c [] := ⟨Nat.zero_le _, by simp, fun h => absurd h (by omega)⟩
theorem Sl.take (h : Sl w size A n c xs) {k : Nat} (hk : k ≤ n) : Sl w size A k c (xs.take (k * size)) :=
  ⟨Nat.le_trans hk h.1, by rw [List.length_take, h.2.1]; exact Nat.min_eq_left (Nat.mul_le_mul_right _ hk), fun hn => by
    obtain ⟨b, o, rfl, hb, hc⟩ := h.2.2 (by omega)
    refine ⟨b, o, rfl, hb, fun j u hu => hc j u ?_⟩
    rw [List.getElem?_take] at hu
    split at hu
    · exact hu
    · cases hu⟩
/-- One cell. -/
theorem Sl.cell {b o : Nat} (h : Sl w size (some ⟨b, o, none⟩) n c xs) {j : Nat} {u : Value} (hu : xs[j]? = some u) : w.cell? ⟨b, o + j, none⟩ = some u := by
  have hl : j < xs.length := (List.getElem?_eq_some_iff.1 hu).1
  have hn : 0 < n := Nat.pos_of_ne_zero fun h0 => by rw [h.2.1, h0, Nat.zero_mul] at hl; omega
  obtain ⟨b', o', hA, _, hc⟩ := h.2.2 hn
  injection hA with hA
  injection hA with h1 h2
  subst h1 h2
  exact hc j u hu
theorem Sl.at_ (h : Sl w size A n c xs) (hn : 0 < n) : ∃ b o, A = some ⟨b, o, none⟩ ∧ b < w.heap.size := by
  obtain ⟨b, o, hA, hb, _⟩ := h.2.2 hn; exact ⟨b, o, hA, hb⟩
theorem Own.nil_ (w : World) (base : Nat) (e : TypeId) (size : Nat) : Own w base e size none 0 0 [] := World.ownsRow_nil w base e size
theorem Own.len {base : Nat} {e : TypeId} (h : Own w base e size A n c xs) : xs.length = n * size := h.1
theorem Own.cap {base : Nat} {e : TypeId} (h : Own w base e size A n c xs) : n ≤ c := by
  rcases h.2 with ⟨h1, h2⟩ | ⟨g, cap, cur, hv, _, _, hnc, _⟩
  · omega
  · injection hv with _ _ h3; omega
theorem Own.maxLen_ {base : Nat} {e : TypeId} (h : Own w base e size A n c xs) : n ≤ maxLen := by
  rcases h.2 with ⟨h1, h2⟩ | ⟨g, cap, cur, hv, _, _, hnc, hm, _⟩
  · rw [h2]; exact Nat.zero_le _
  · exact Nat.le_trans hnc hm
theorem Own.at_ {base : Nat} {e : TypeId} (h : Own w base e size A n c xs) (hn : 0 < n) : ∃ g, A = some ⟨g, 0, none⟩ ∧ base ≤ g ∧ g < w.heap.size := by
  rcases h.2 with ⟨h1, h2⟩ | ⟨g, cap, cur, hv, hg, hh, _⟩
  · omega
  · injection hv with h1
    refine ⟨g, h1, hg, Nat.lt_of_not_le fun hle => ?_⟩
    rw [Array.getElem?_eq_none hle] at hh; cases hh
theorem Own.block {base : Nat} {e : TypeId} (h : Own w base e size A n c xs) : (Value.slice A n c).ownBlock = none ∨ ∃ g, (Value.slice A n c).ownBlock = some g ∧ base ≤ g ∧ g < w.heap.size := by
  cases hA : (Value.slice A n c).ownBlock with
  | none => exact .inl rfl
  | some g => exact .inr ⟨g, rfl, World.ownsRow.lt h g hA⟩
theorem Own.sl {base : Nat} {e : TypeId} (h : Own w base e size A n c xs) : Sl w size A n c xs :=
  ⟨h.cap, h.len, fun hn => by
    obtain ⟨g, rfl, _, hlt⟩ := h.at_ hn
    refine ⟨g, 0, rfl, hlt, fun j u hu => ?_⟩
    have hj : j < n * size := by rw [← h.len]; exact (List.getElem?_eq_some_iff.1 hu).1
    rw [Nat.zero_add, World.ownsRow.cellAt h j hj, hu]⟩
theorem Own.bel {base : Nat} {e : TypeId} {w' : World} (h : Own w base e size A n c xs) (hb : Bel w w') : Own w' base e size A n c xs := by
  refine World.ownsRow.kept (row := none) h ⟨hb.os, hb.tape, hb.output, hb.size, fun k hk _ => hb.block k hk⟩ ?_
  rcases h.block with h0 | ⟨g, h0, _⟩
  · exact .inl h0
  · exact .inr (by rw [h0]; exact fun e => by cases e)
theorem Own.ext {base : Nat} {e : TypeId} (h : Own w base e size A n c xs) (x : Beyond) : Own (ext w x) base e size A n c xs := h.bel (bel_ext w x)
theorem Own.alloc {base : Nat} {e : TypeId} (h : Own w base e size A n c xs) (ob : Obj) : Own (w.alloc ob) base e size A n c xs := h.bel ((Bel.refl w).alloc ob)
theorem Own.base_le {base base' : Nat} {e : TypeId} (h : Own w base e size A n c xs) (hb : base' ≤ base) : Own w base' e size A n c xs := by
  obtain ⟨h1, h2⟩ := h
  refine ⟨h1, ?_⟩
  rcases h2 with h2 | ⟨g, cap, cur, hv, hg, r⟩
  · exact .inl h2
  · exact .inr ⟨g, cap, cur, hv, Nat.le_trans hb hg, r⟩
end

section
variable {P : Program} {ops : Array Oper} {rest : List Oper} {o : Oper} {a : Act} {Q : Exit → Act → World → Prop}
/-- append of the elements of another slice (with an address) onto a slice of the call's own. -/
theorem append_ext {t e : TypeId} {z : Value} {size bytes : Nat} (hT : SlT P t e z size bytes) {wB W0 W1 W : World} (hb : Bel wB W)
    {A : Option Addr} {n c : Nat} {xs : List Value} (hown : Own W0 wB.heap.size e size A n c xs) (hb0 : Bel W0 W)
    {b off m c' : Nat} {news : List Value} (hsrc : Sl W1 size (some ⟨b, off, none⟩) m c' news) (hb1 : Bel W1 W) (h1 : ∀ u ∈ news, u.oneCell' = true) (hlen : n + m ≤ 4294967296)
    (hgd : o.guard = none) (s x : Operand) (ho : o.op = .call { callee := .builtin .append, args := #[s, x], argTypes := #[t, t] })
    (hs : a.eval s = .slice A n c) (hx : a.eval x = .slice (some ⟨b, off, none⟩) m c')
    (h : ∀ A' c'' y, Own (ext wB y) wB.heap.size e size A' (n + m) c'' (xs ++ news) → wpList P ops Q rest (a.put o.dst (.slice A' (n + m) c'')) (ext wB y)) : wpList P ops Q (o :: rest) a W := by
  obtain ⟨i, hi, hz0, hz1, hz2⟩ := info_parts hT.info
  replace hown := hown.bel hb0
  replace hsrc := hsrc.bel hb1
  have hby : (n + m) * bytes ≤ 140737488355328 := Nat.le_trans (Nat.mul_le_mul hlen hT.small) (by decide)
  refine wpList_append_m hgd s x t ho wB.heap.size e i z size bytes hT.und hi hz0 hz1 hz2 hT.zs hT.pos _ n xs hs hown ⟨b, off, none⟩ m c' news hx hsrc.len
    (fun j u hu => ?_) h1 (Nat.le_trans hlen (by unfold maxLen; decide)) hby hb.size fun v' w' hown' hg hnil => ?_
  · have hj := hsrc.cell hu
    unfold Addr.add
    split
    · rename_i h0; rw [h0] at hj; exact hj
    · exact hj
  · have hbel : Bel wB w' := hb.grown hg (fun k hk => by
      rcases hown.block with h0 | ⟨g, h0, hge, _⟩
      · rw [h0] at hk; cases hk
      · rw [h0] at hk; injection hk with hk; omega) hnil
    obtain ⟨y, rfl⟩ := ext_of hbel
    have hv : ∃ A' c'', v' = .slice A' (n + m) c'' := by
      rcases hown'.2 with ⟨hv, hn⟩ | ⟨g, cap, cur, hv, _⟩
      · exact ⟨none, 0, by rw [hv, hn]⟩
      · exact ⟨_, _, hv⟩
    obtain ⟨A', c'', rfl⟩ := hv
    exact h A' c'' y hown'
/-- make([]T, n). -/
theorem make_ext {t e : TypeId} {z : Value} {size bytes : Nat} (hT : SlT P t e z size bytes) {wB W : World} (hb : Bel wB W)
    {kl kc : IntKind} {n : Nat} (hlen : n ≤ 4294967296)
    (hgd : o.guard = none) (l c : Operand) (ho : o.op = .makeSlice t l c) (hl : a.eval l = .int kl n) (hc : a.eval c = .int kc n)
    (h : ∀ g y, wB.heap.size ≤ g → Own (ext wB y) wB.heap.size e size (some ⟨g, 0, none⟩) n n (madeCells z.cells (n * size)).toList → wpList P ops Q rest (a.put o.dst (.slice (some ⟨g, 0, none⟩) n n)) (ext wB y)) : wpList P ops Q (o :: rest) a W := by
  obtain ⟨i, hi, hz0, hz1, hz2⟩ := info_parts hT.info
  have hby : i.bytes * n ≤ 281474976710656 := by rw [hz2, Nat.mul_comm]; exact Nat.le_trans (Nat.mul_le_mul hlen hT.small) (by decide)
  obtain ⟨w', hrun, hown, hg⟩ := run_make_full (P := P) W wB.heap.size t e i z size hT.und hi hz0 hz1 kl kc n hby (Nat.le_trans hlen (by unfold maxLen; decide)) hb.size
  have hbel : Bel wB w' := hb.grown hg (fun k hk => by cases hk) (run_mono _ _ _ _ hrun)
  refine wpList_plain hgd fun K hK => ?_
  unfold Oper.wp
  simp [execOp, ho, hl, hc, hrun, Result.andThen]
  obtain ⟨y, rfl⟩ := ext_of hbel
  exact hK _ _ (h _ y hb.size hown)
end
end Go
namespace Go
open RowKit
/-- A store into a slice of the call's own. -/
theorem own_store {wB : World} {y : Beyond} {e : TypeId} {size g n c : Nat} {xs : List Value} (h : Own (ext wB y) wB.heap.size e size (some ⟨g, 0, none⟩) n c xs) (hg : wB.heap.size ≤ g) (j : Nat) (u : Value) :
    ∃ y', (ext wB y).setCell ⟨g, j, none⟩ u = ext wB y' ∧ Own (ext wB y') wB.heap.size e size (some ⟨g, 0, none⟩) n c (xs.set j u) := by
  have h1 := (World.ownsRow.stored h j u).1
  obtain ⟨y', hy⟩ := ext_of ((bel_ext wB y).setCell (p := ⟨g, j, none⟩) hg u)
  exact ⟨y', hy, by rw [← hy]; exact h1⟩
theorem own_cell {w : World} {base : Nat} {e : TypeId} {size g n c : Nat} {xs : List Value} (h : Own w base e size (some ⟨g, 0, none⟩) n c xs) {j : Nat} {u : Value} (hu : xs[j]? = some u) : w.cell? ⟨g, j, none⟩ = some u := by
  rw [World.ownsRow.cellAt h j (by rw [← h.len]; exact (List.getElem?_eq_some_iff.1 hu).1), hu]
theorem own_frozen {w : World} {base : Nat} {e : TypeId} {size g n c : Nat} {xs : List Value} (h : Own w base e size (some ⟨g, 0, none⟩) n c xs) (j : Nat) : w.frozen? ⟨g, j, none⟩ = false := World.ownsRow.frozenAt h j
/-- bytes as cells -/
def vb (l : List UInt8) : List Value := l.map fun x => .int .u8 (x.toNat : Int)
theorem vb_length (l : List UInt8) : (vb l).length = l.length := by simp [vb]
theorem vb_append (l m : List UInt8) : vb (l ++ m) = vb l ++ vb m := by simp [vb]
theorem vb_cons (x : UInt8) (l : List UInt8) : vb (x :: l) = .int .u8 (x.toNat : Int) :: vb l := by simp [vb]
theorem vb_get (l : List UInt8) (j : Nat) : (vb l)[j]? = (l[j]?).map fun x => Value.int .u8 (x.toNat : Int) := by simp [vb]
theorem vb_one (l : List UInt8) : ∀ u ∈ vb l, u.oneCell' = true := by
  intro u hu
  simp only [vb, List.mem_map] at hu
  obtain ⟨x, _, rfl⟩ := hu
  rfl
end Go

namespace Go
open RowKit
theorem own_lit (wB : World) (x : Beyond) (cs : Array Value) (e : TypeId) (size n g : Nat) (hg : g = wB.heap.size) (hn : n ≤ maxLen) (hs : cs.size = n * size) :
    ∃ y, ext (wB.alloc (.cells cs e)) x = ext wB y ∧ Own (ext wB y) wB.heap.size e size (some ⟨g, 0, none⟩) n n cs.toList := by
  subst hg
  obtain ⟨y, hy⟩ := ext_of (((Bel.refl wB).alloc (.cells cs e)).ext x)
  refine ⟨y, hy, ?_⟩
  rw [← hy]
  exact Own.ext (World.ownsRow_lit wB cs n (Nat.le_refl _) hn hs) x
theorem own_lit0 (wB : World) (cs : Array Value) (e : TypeId) (size n g : Nat) (hg : g = wB.heap.size) (hn : n ≤ maxLen) (hs : cs.size = n * size) :
    ∃ y, wB.alloc (.cells cs e) = ext wB y ∧ Own (ext wB y) wB.heap.size e size (some ⟨g, 0, none⟩) n n cs.toList := by
  subst hg
  obtain ⟨y, hy⟩ := ext_of ((Bel.refl wB).alloc (.cells cs e))
  exact ⟨y, hy, by rw [← hy]; exact World.ownsRow_lit wB cs n (Nat.le_refl _) hn hs⟩
section
variable {P : Program}
/-- A block that the call has just made becomes a slice of its own. -/
theorem wp_lit {c : Code} {Q : Exit → Act → World → Prop} {a : Act} {wB : World} {x : Beyond} {cs : Array Value} {e : TypeId} (size n g : Nat) (hg : g = wB.heap.size) (hn : n ≤ maxLen) (hs : cs.size = n * size)
    (h : ∀ y, Own (ext wB y) wB.heap.size e size (some ⟨g, 0, none⟩) n n cs.toList → c.wp P Q a (ext wB y)) : c.wp P Q a (ext (wB.alloc (.cells cs e)) x) := by
  obtain ⟨y, hy, ho⟩ := own_lit wB x cs e size n g hg hn hs
  rw [hy]; exact h y ho
theorem wp_lit0 {c : Code} {Q : Exit → Act → World → Prop} {a : Act} {wB : World} {cs : Array Value} {e : TypeId} (size n g : Nat) (hg : g = wB.heap.size) (hn : n ≤ maxLen) (hs : cs.size = n * size)
    (h : ∀ y, Own (ext wB y) wB.heap.size e size (some ⟨g, 0, none⟩) n n cs.toList → c.wp P Q a (ext wB y)) : c.wp P Q a (wB.alloc (.cells cs e)) := by
  obtain ⟨y, hy, ho⟩ := own_lit0 wB cs e size n g hg hn hs
  rw [hy]; exact h y ho
theorem calls_lit {f : FuncId} {args : Array Value} {R : Ending → World → Prop} {wB : World} {x : Beyond} {cs : Array Value} {e : TypeId} (size n g : Nat) (hg : g = wB.heap.size) (hn : n ≤ maxLen) (hs : cs.size = n * size)
    (h : ∀ y, Own (ext wB y) wB.heap.size e size (some ⟨g, 0, none⟩) n n cs.toList → Calls P f args (ext wB y) R) : Calls P f args (ext (wB.alloc (.cells cs e)) x) R := by
  obtain ⟨y, hy, ho⟩ := own_lit wB x cs e size n g hg hn hs
  rw [hy]; exact h y ho
theorem calls_lit0 {f : FuncId} {args : Array Value} {R : Ending → World → Prop} {wB : World} {cs : Array Value} {e : TypeId} (size n g : Nat) (hg : g = wB.heap.size) (hn : n ≤ maxLen) (hs : cs.size = n * size)
    (h : ∀ y, Own (ext wB y) wB.heap.size e size (some ⟨g, 0, none⟩) n n cs.toList → Calls P f args (ext wB y) R) : Calls P f args (wB.alloc (.cells cs e)) R := by
  obtain ⟨y, hy, ho⟩ := own_lit0 wB cs e size n g hg hn hs
  rw [hy]; exact h y ho
end
end Go

namespace Go
open RowKit
/-- What a call hands back: a slice of its own. -/
theorem own_ret {w W0 W : World} {base : Nat} {e : TypeId} {size n c : Nat} {A : Option Addr} {xs : List Value} (hb : Bel w W) (h : Own W0 base e size A n c xs) (h0 : Bel W0 W) (hbase : w.heap.size ≤ base) : ∃ x, W = ext w x ∧ Own (ext w x) w.heap.size e size A n c xs := by
  obtain ⟨x, hx⟩ := ext_of hb
  exact ⟨x, hx, by rw [← hx]; exact (h.bel h0).base_le hbase⟩
end Go

namespace Go
theorem exists_ext {w W : World} {Q : World → Prop} (hb : Bel w W) (h : Q W) : ∃ x, W = ext w x ∧ Q (ext w x) := by
  obtain ⟨x, rfl⟩ := ext_of hb; exact ⟨x, rfl, h⟩
/-- A block of the call's own, read as a slice. -/
theorem sl_cells {W : World} {g n size : Nat} {cs : Array Value} (hg : g < W.heap.size) (hs : cs.size = n * size) (h : ∀ j : Nat, W.cell? ⟨g, j, none⟩ = cs[j]?) : Sl W size (some ⟨g, 0, none⟩) n n cs.toList :=
  ⟨Nat.le_refl _, by simpa using hs, fun _ => ⟨g, 0, rfl, hg, fun j u hu => by rw [Nat.zero_add, h]; simpa using hu⟩⟩
end Go

namespace Go
open RowKit
theorem sl_new (W : World) (cs : Array Value) (e : TypeId) (size g : Nat) (hg : g = W.heap.size) (hs : cs.size = size) : Sl (W.alloc (.cells cs e)) size (some ⟨g, 0, none⟩) 1 1 cs.toList := by
  subst hg
  exact sl_cells (by simp) (by simpa using hs) (fun j => by simp [go_sem])
section
variable {P : Program} {ops : Array Oper} {rest : List Oper} {o : Oper} {a : Act} {Q : Exit → Act → World → Prop}
/-- append of one element, just built, onto a slice of the call's own. -/
theorem append1_ext {t e e' : TypeId} {z : Value} {size bytes : Nat} (hT : SlT P t e z size bytes) {wB W0 W : World} (hb : Bel wB W)
    {A : Option Addr} {n c : Nat} {xs : List Value} (hown : Own W0 wB.heap.size e size A n c xs) (hb0 : Bel W0 W)
    {cs : Array Value} (h1 : ∀ u ∈ cs.toList, u.oneCell' = true) (hsz : cs.size = size) (hlen : n + 1 ≤ 4294967296)
    (hgd : o.guard = none) (s x : Operand) (ho : o.op = .call { callee := .builtin .append, args := #[s, x], argTypes := #[t, t] }) {g : Nat}
    (hs : a.eval s = .slice A n c) (hx : a.eval x = .slice (some ⟨g, 0, none⟩) 1 1) (hg : g = W.heap.size)
    (h : ∀ A' c'' y, Own (ext wB y) wB.heap.size e size A' (n + 1) c'' (xs ++ cs.toList) → wpList P ops Q rest (a.put o.dst (.slice A' (n + 1) c'')) (ext wB y)) : wpList P ops Q (o :: rest) a (W.alloc (.cells cs e')) :=
  append_ext hT (hb.alloc _) hown (hb0.alloc _) (sl_new W cs e' size g hg hsz) (Bel.refl _) h1 hlen hgd s x ho hs hx h
/-- append of one element, just built, onto a slice that has no room: a new row; nothing that was there is written. -/
theorem grow1_ext {t e e' : TypeId} {z : Value} {size bytes : Nat} (hT : SlT P t e z size bytes) {W0 W : World}
    {b off n : Nat} {xs : List Value} (hsl : Sl W0 size (some ⟨b, off, none⟩) n n xs) (hb0 : Bel W0 W)
    {cs : Array Value} (hsz : cs.size = size) (hlen : n + 1 ≤ 4294967296)
    (hgd : o.guard = none) (s x : Operand) (ho : o.op = .call { callee := .builtin .append, args := #[s, x], argTypes := #[t, t] }) {g : Nat}
    (hs : a.eval s = .slice (some ⟨b, off, none⟩) n n) (hx : a.eval x = .slice (some ⟨g, 0, none⟩) 1 1) (hg : g = W.heap.size)
    (h : ∀ A' c'' y, Own (ext W y) W.heap.size e size A' (n + 1) c'' (xs ++ cs.toList) → wpList P ops Q rest (a.put o.dst (.slice A' (n + 1) c'')) (ext W y)) : wpList P ops Q (o :: rest) a (W.alloc (.cells cs e')) := by
  obtain ⟨i, hi, hz0, hz1, hz2⟩ := info_parts hT.info
  have hsl' := (hsl.bel hb0).bel ((Bel.refl W).alloc (.cells cs e'))
  have hsrc := sl_new W cs e' size g hg hsz
  have hby : (n + 1) * bytes ≤ 140737488355328 := Nat.le_trans (Nat.mul_le_mul hlen hT.small) (by decide)
  have add0 : ∀ (b off j : Nat), (⟨b, off, none⟩ : Addr).add j = ⟨b, off + j, none⟩ := fun b off j => by
    unfold Addr.add; split
    · rename_i h0; rw [h0]; rfl
    · rfl
  obtain ⟨v', w', hrun, hown, hgr⟩ := run_append_arg_grows (P := P) (W.alloc (.cells cs e')) t o.type e i z size bytes hT.und hi hz0 hz1 hz2 hT.zs hT.pos ⟨b, off, none⟩ n n xs hsl'.len
    (fun j u hu => by rw [add0]; exact hsl'.cell hu) ⟨g, 0, none⟩ 1 1 cs.toList hsrc.len (fun j u hu => by rw [add0]; exact hsrc.cell hu) (by omega) (Nat.le_trans hlen (by unfold maxLen; decide)) hby
  have hbel : Bel W w' := ((Bel.refl W).alloc _).grown hgr (fun k hk => by cases hk) (run_mono _ _ _ _ hrun)
  obtain ⟨y, rfl⟩ := ext_of hbel
  have hv : ∃ A' c'', v' = .slice A' (n + 1) c'' := by
    rcases hown.2 with ⟨_, hn⟩ | ⟨g, cap, cur, hv, _⟩
    · omega
    · exact ⟨_, _, hv⟩
  obtain ⟨A', c'', rfl⟩ := hv
  refine wpList_plain hgd fun K hK => ?_
  unfold Oper.wp execOp
  simp only [ho, resolve, invoke, builtin, Sem.run_bind, Sem.run_pure, Result.andThen_ok, List.map_toArray, List.map_cons, List.map_nil, hs, hx, hrun]
  exact hK _ _ (h A' c'' y (Own.base_le hown (by simp)))
end
end Go

namespace Go
open RowKit
section
variable {P : Program}
theorem strOf_vb (l : List UInt8) : strOfNums (l.map fun x => (x.toNat : Int)) = ⟨l.toArray⟩ := by
  have e : (l.map fun x => (x.toNat : Int)).map (fun n => UInt8.ofNat n.toNat) = l := by
    rw [List.map_map]
    conv => rhs; rw [← List.map_id l]
    apply List.map_congr_left
    intro x _
    simp
  unfold strOfNums
  rw [e]
/-- bytes as a string -/
theorem conv_sl {W W' : World} {b o n c : Nat} {l : List UInt8} (h : Sl W 1 (some ⟨b, o, none⟩) n c (vb l)) (hb : Bel W W') {src e dst : TypeId} (hs : P.underlying src = some (.slice e)) (he : P.underlying e = some (.int .u8)) (hd : P.underlying dst = some .string) :
    (convert src dst (.slice (some ⟨b, o, none⟩) n c)).run P W' = .ok (.string ⟨l.toArray⟩) W' := by
  have h' := h.bel hb
  have hl : l.length = n := by have := h'.len; rw [vb_length] at this; omega
  rw [run_convert_bytes_arg W' src e hs he b o n c (l.map fun x => (x.toNat : Int)) (by simpa using hl) (fun i hi => ?_) dst hd, strOf_vb]
  rw [h'.cell (j := i) (u := .int .u8 ((l.map fun x => (x.toNat : Int)).getD i 0)) (by
    rw [vb_get, List.getElem?_eq_getElem (by omega)]; simp [List.getD_eq_getElem?_getD, List.getElem?_eq_getElem (show i < l.length by omega)])]
theorem conv_own {W W' : World} {base : Nat} {e0 : TypeId} {A : Option Addr} {n c : Nat} {l : List UInt8} (h : Own W base e0 1 A n c (vb l)) (hb : Bel W W') {src e dst : TypeId} (hs : P.underlying src = some (.slice e)) (he : P.underlying e = some (.int .u8)) (hd : P.underlying dst = some .string) :
    (convert src dst (.slice A n c)).run P W' = .ok (.string ⟨l.toArray⟩) W' := by
  rcases h.2 with ⟨hv, hn⟩ | ⟨g, cap, cur, hv, _⟩
  · injection hv with h1 h2 h3
    subst h1
    have hl : l = [] := by
      have h4 := h.len
      rw [vb_length] at h4
      exact List.eq_nil_of_length_eq_zero (by omega)
    rw [run_convert_bytes_nil W' src e hs he n c dst hd, hl]; rfl
  · injection hv with h1
    subst h1
    exact conv_sl h.sl hb hs he hd
/-- A fact that holds in every world behind this one is laid into the context. -/
theorem wp_have1 {c : Code} {Q : Exit → Act → World → Prop} {a : Act} {w : World} {z : Beyond} (F : World → Prop) (hF : ∀ x, F (ext w (z.and x))) (h : (∀ x, F (ext w (z.and x))) → c.wp P Q a (ext w z)) : c.wp P Q a (ext w z) := h hF
theorem wp_have0 {c : Code} {Q : Exit → Act → World → Prop} {a : Act} {w : World} (F : World → Prop) (hF : ∀ x, F (ext w x)) (h : (∀ x, F (ext w x)) → c.wp P Q a w) : c.wp P Q a w := h hF
end
end Go

namespace Go
open RowKit
section
variable {P : Program} {ops : Array Oper} {rest : List Oper} {o : Oper} {a : Act} {Q : Exit → Act → World → Prop}
/-- append of the elements of whatever slice (nil, empty or not) onto a slice of the call's own. -/
theorem append_any {t e : TypeId} {z : Value} {size bytes : Nat} (hT : SlT P t e z size bytes) {wB W0 W1 W : World} (hb : Bel wB W)
    {A : Option Addr} {n c : Nat} {xs : List Value} (hown : Own W0 wB.heap.size e size A n c xs) (hb0 : Bel W0 W)
    {A1 : Option Addr} {m c' : Nat} {news : List Value} (hsrc : Sl W1 size A1 m c' news) (hb1 : Bel W1 W) (h1 : ∀ u ∈ news, u.oneCell' = true) (hnil : A1 = none → c' = 0) (hlen : n + m ≤ 4294967296)
    (hgd : o.guard = none) (s x : Operand) (ho : o.op = .call { callee := .builtin .append, args := #[s, x], argTypes := #[t, t] })
    (hs : a.eval s = .slice A n c) (hx : a.eval x = .slice A1 m c')
    (h : ∀ A' c'' y, Own (ext wB y) wB.heap.size e size A' (n + m) c'' (xs ++ news) → wpList P ops Q rest (a.put o.dst (.slice A' (n + m) c'')) (ext wB y)) : wpList P ops Q (o :: rest) a W := by
  obtain ⟨i, hi, hz0, hz1, hz2⟩ := info_parts hT.info
  have hown' := hown.bel hb0
  cases A1 with
  | none =>
    have hm : m = 0 := Nat.eq_zero_of_not_pos fun hp => by obtain ⟨b, o', hA, _⟩ := hsrc.at_ hp; cases hA
    subst hm
    obtain rfl := hnil rfl
    have hn : news = [] := List.eq_nil_of_length_eq_zero (by simpa using hsrc.len)
    subst hn
    obtain ⟨y, rfl⟩ := ext_of hb
    have hrun := run_append_owned_none (P := P) (w := ext wB y) wB.heap.size t o.type e i size hT.und hi _ n xs hown'
    refine wpList_plain hgd fun K hK => ?_
    unfold Oper.wp execOp
    simp only [ho, resolve, invoke, builtin, Sem.run_bind, Sem.run_pure, Result.andThen_ok, List.map_toArray, List.map_cons, List.map_nil, hs, hx, hrun]
    exact hK _ _ (h A c y (by simpa using hown'))
  | some ad =>
    have hby : (n + m) * bytes ≤ 140737488355328 := Nat.le_trans (Nat.mul_le_mul hlen hT.small) (by decide)
    have hsrc' := hsrc.bel hb1
    refine wpList_append_m hgd s x t ho wB.heap.size e i z size bytes hT.und hi hz0 hz1 hz2 hT.zs hT.pos _ n xs hs hown' ad m c' news hx hsrc'.len
      (fun j u hu => ?_) h1 (Nat.le_trans hlen (by unfold maxLen; decide)) hby hb.size fun v' w' hown2 hg hmono => ?_
    · have hl : j < news.length := (List.getElem?_eq_some_iff.1 hu).1
      have hp : 0 < m := Nat.pos_of_ne_zero fun h0 => by rw [hsrc'.len, h0, Nat.zero_mul] at hl; omega
      obtain ⟨b, o', hA, _⟩ := hsrc'.at_ hp
      injection hA with hA
      subst hA
      have hj := hsrc'.cell hu
      unfold Addr.add
      split
      · rename_i h0; rw [h0] at hj; exact hj
      · exact hj
    · have hbel : Bel wB w' := hb.grown hg (fun k hk => by
        rcases hown'.block with h0 | ⟨g, h0, hge, _⟩
        · rw [h0] at hk; cases hk
        · rw [h0] at hk; injection hk with hk; omega) hmono
      obtain ⟨y, rfl⟩ := ext_of hbel
      have hv : ∃ A' c'', v' = .slice A' (n + m) c'' := by
        rcases hown2.2 with ⟨hv, hn⟩ | ⟨g, cap, cur, hv, _⟩
        · exact ⟨none, 0, by rw [hv, hn]⟩
        · exact ⟨_, _, hv⟩
      obtain ⟨A', c'', rfl⟩ := hv
      exact h A' c'' y hown2
end
end Go

namespace Go
theorem Own.nilc {w : World} {base : Nat} {e : TypeId} {size n c : Nat} {A : Option Addr} {xs : List Value} (h : Own w base e size A n c xs) : A = none → c = 0 := by
  rcases h.2 with ⟨hv, _⟩ | ⟨g, cap, cur, hv, _⟩
  · intro _; injection hv
  · intro hA; injection hv with h1; rw [hA] at h1; cases h1
theorem own_exists {w W0 W : World} {base : Nat} {e : TypeId} {size n c : Nat} {A : Option Addr} {xs : List Value} (hb : Bel w W) (h : Own W0 base e size A n c xs) (h0 : Bel W0 W) : ∃ y, W = ext w y ∧ Own (ext w y) base e size A n c xs := by
  obtain ⟨y, hy⟩ := ext_of hb
  exact ⟨y, hy, by rw [← hy]; exact h.bel h0⟩
end Go
