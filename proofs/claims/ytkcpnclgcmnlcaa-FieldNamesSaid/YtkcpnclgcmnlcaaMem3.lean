/- append onto an empty slice literal. -/
import Derived.Test.YtkcpnclgcmnlcaaMem2
set_option linter.unusedSimpArgs false
set_option linter.unusedVariables false
namespace Go
open RowKit
theorem own_new {wB W : World} (hb : Bel wB W) (cs : Array Value) (e : TypeId) (size n g : Nat) (hg : g = W.heap.size) (hn : n ≤ maxLen) (hs : cs.size = n * size) : Own (W.alloc (.cells cs e)) wB.heap.size e size (some ⟨g, 0, none⟩) n n cs.toList := by
  subst hg
  exact World.ownsRow_lit W cs n hb.size hn hs
/-- what make has made, element by element -/
theorem made_mul (z : Array Value) (n : Nat) (hz : 0 < z.size) : (madeCells z (n * z.size)).toList = (List.replicate n z.toList).flatten := by
  induction n with
  | zero => simp [madeCells]
  | succ n ih =>
    rw [List.replicate_succ', List.flatten_append, ← ih]
    apply List.ext_getElem?
    intro j
    have hs : (n + 1) * z.size = n * z.size + z.size := Nat.succ_mul _ _
    rcases Nat.lt_or_ge j (n * z.size) with hj | hj
    · rw [List.getElem?_append_left (by simpa [madeCells] using hj)]
      simp [madeCells, hs, show j < n * z.size + z.size by omega, hj]
    · rw [List.getElem?_append_right (by simpa [madeCells] using hj)]
      have hl : (madeCells z (n * z.size)).toList.length = n * z.size := by simp [madeCells]
      rw [hl]
      obtain ⟨r, rfl⟩ : ∃ r, j = n * z.size + r := ⟨j - n * z.size, by omega⟩
      rw [Nat.add_sub_cancel_left]
      by_cases hr : r < z.size
      · have e : (n * z.size + r) % z.size = r := by rw [Nat.mul_comm, Nat.mul_add_mod]; exact Nat.mod_eq_of_lt hr
        simp [madeCells, hs, hr, e]
      · simp [madeCells, hs, hr]
/-- a slice literal, just built -/
theorem sl_lit (W : World) (xs : List Value) (e : TypeId) (size n g : Nat) (hg : g = W.heap.size) (hs : xs.length = n * size) : Sl (W.alloc (.cells xs.toArray e)) size (some ⟨g, 0, none⟩) n n xs := by
  subst hg
  have := sl_cells (W := W.alloc (.cells xs.toArray e)) (g := W.heap.size) (n := n) (size := size) (cs := xs.toArray) (by simp) (by simpa using hs) (fun j => by simp [go_sem])
  simpa using this
theorem sl_blit (W : World) (l : List UInt8) (e : TypeId) (g : Nat) (hg : g = W.heap.size) : Sl (W.alloc (.cells (vb l).toArray e)) 1 (some ⟨g, 0, none⟩) l.length l.length (vb l) := sl_lit W (vb l) e 1 l.length g hg (by simp [vb_length])
/-- a slice of the call's own where an elder block has been written -/
theorem own_swap {V V' : World} {y : Beyond} {base : Nat} {e : TypeId} {size n c : Nat} {A : Option Addr} {xs : List Value} (hs : V.heap.size = V'.heap.size) (h : Own (ext V y) base e size A n c xs) (hb : V.heap.size ≤ base) : Own (ext V' y) base e size A n c xs := by
  obtain ⟨h1, h2⟩ := h
  refine ⟨h1, ?_⟩
  rcases h2 with h2 | ⟨g, cap, cur, hv, hg, hh, r⟩
  · exact .inl h2
  · refine .inr ⟨g, cap, cur, hv, hg, ?_, r⟩
    have e1 : (ext V y).heap = V.heap ++ y.objs := by unfold ext; rfl
    have e2 : (ext V' y).heap = V'.heap ++ y.objs := by unfold ext; rfl
    rw [e1, Array.getElem?_append_right (by omega)] at hh
    rw [e2, Array.getElem?_append_right (by omega), ← hs]
    exact hh
section
variable {P : Program} {ops : Array Oper} {rest : List Oper} {o : Oper} {a : Act} {Q : Exit → Act → World → Prop}
/-- an operation whose guard is met -/
theorem wpList_unguard {w : World} {j : Nat} {want : Bool} (hg : o.guard = some (j, want)) (hy : yielded ops a.tmps j = some want) (h : wpList P ops Q ({ o with guard := none } :: rest) a w) : wpList P ops Q (o :: rest) a w := by
  have h1 : Region.wanted o (yielded ops a.tmps) = true := by simp [Region.wanted, hg, hy]
  unfold wpList at h ⊢
  rw [if_pos h1]
  exact h
/-- bytes that came in, as a string -/
theorem conv_any {W W' : World} {A : Option Addr} {n c : Nat} {l : List UInt8} (h : Sl W 1 A n c (vb l)) (hn : A = none → c = 0) (hb : Bel W W') {src e dst : TypeId} (hs : P.underlying src = some (.slice e)) (he : P.underlying e = some (.int .u8)) (hd : P.underlying dst = some .string) :
    (convert src dst (.slice A n c)).run P W' = .ok (.string ⟨l.toArray⟩) W' := by
  have hl : l.length = n := by have := h.len; rw [vb_length] at this; omega
  by_cases h0 : 0 < n
  · obtain ⟨b, o', rfl, _⟩ := h.at_ h0
    exact conv_sl h hb hs he hd
  · obtain rfl : n = 0 := by omega
    obtain rfl : l = [] := List.eq_nil_of_length_eq_zero hl
    cases A with
    | none => rw [run_convert_bytes_nil W' src e hs he 0 c dst hd]; rfl
    | some ad =>
      have hl0 : (loadCells ad 0).run P W' = .ok (([] : List Int).map (Value.int .u8)).toArray W' := rfl
      rw [run_convert_bytes_string W' src dst e _ 0 c hs he hd, run_bytesToString W' _ 0 c [] hl0]; rfl
/-- append of the elements of whatever slice onto '[]T{}'. -/
theorem append_new {t e : TypeId} {z : Value} {size bytes : Nat} (hT : SlT P t e z size bytes) {wB W1 W : World} (hb : Bel wB W)
    {A1 : Option Addr} {m c' : Nat} {news : List Value} (hsrc : Sl W1 size A1 m c' news) (hb1 : Bel W1 W) (h1 : ∀ u ∈ news, u.oneCell' = true) (hnil : A1 = none → c' = 0) (hlen : m ≤ 4294967296)
    (hgd : o.guard = none) (s x : Operand) (ho : o.op = .call { callee := .builtin .append, args := #[s, x], argTypes := #[t, t] }) {g : Nat}
    (hs : a.eval s = .slice (some ⟨g, 0, none⟩) 0 0) (hx : a.eval x = .slice A1 m c') (hg : g = W.heap.size)
    (h : ∀ A' c'' y, Own (ext wB y) wB.heap.size e size A' m c'' news → wpList P ops Q rest (a.put o.dst (.slice A' m c'')) (ext wB y)) : wpList P ops Q (o :: rest) a (W.alloc (.cells #[] e)) := by
  refine append_any hT (hb.alloc _) (own_new hb #[] e size 0 g hg (Nat.zero_le _) (by simp)) (Bel.refl _) hsrc (hb1.alloc _) h1 hnil (by omega) hgd s x ho hs hx fun A' c'' y hown => ?_
  rw [Nat.zero_add] at hown ⊢
  exact h A' c'' y hown
end
end Go
