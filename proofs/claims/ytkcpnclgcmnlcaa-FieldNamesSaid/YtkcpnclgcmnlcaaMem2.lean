/- append of one element just built onto a slice of the call's own, where blocks that lie behind that slice are kept. -/
import Derived.Test.YtkcpnclgcmnlcaaMem
import Derived.Deep.AppendLies
set_option linter.unusedSimpArgs false
set_option linter.unusedVariables false
namespace Go
open RowKit
section
variable {P : Program} {ops : Array Oper} {rest : List Oper} {o : Oper} {a : Act} {Q : Exit → Act → World → Prop}
theorem append1_keep {t e e' : TypeId} {z : Value} {size bytes : Nat} (hT : SlT P t e z size bytes) {wB W0 W : World} (hb : Bel wB W)
    {A : Option Addr} {n c : Nat} {xs : List Value} (hown : Own W0 wB.heap.size e size A n c xs) (hb0 : Bel W0 W)
    {cs : Array Value} (h1 : ∀ u ∈ cs.toList, u.oneCell' = true) (hsz : cs.size = size) (hlen : n + 1 ≤ 4294967296)
    (hgd : o.guard = none) (s x : Operand) (ho : o.op = .call { callee := .builtin .append, args := #[s, x], argTypes := #[t, t] }) {g : Nat}
    (hs : a.eval s = .slice A n c) (hx : a.eval x = .slice (some ⟨g, 0, none⟩) 1 1) (hg : g = W.heap.size)
    (h : ∀ A' c'' y, Own (ext wB y) wB.heap.size e size A' (n + 1) c'' (xs ++ cs.toList) → (∀ (p : Addr) (u : Value), W0.heap.size ≤ p.block → p.block < W.heap.size → W.cell? p = some u → (ext wB y).cell? p = some u) → wpList P ops Q rest (a.put o.dst (.slice A' (n + 1) c'')) (ext wB y)) : wpList P ops Q (o :: rest) a (W.alloc (.cells cs e')) := by
  obtain ⟨i, hi, hz0, hz1, hz2⟩ := info_parts hT.info
  have hown1 := (hown.bel hb0).alloc (.cells cs e')
  have hsrc := sl_new W cs e' size g hg hsz
  have hb1 : Bel wB (W.alloc (.cells cs e')) := hb.alloc _
  have hby : (n + 1) * bytes ≤ 140737488355328 := Nat.le_trans (Nat.mul_le_mul hlen hT.small) (by decide)
  refine wpList_append_m hgd s x t ho wB.heap.size e i z size bytes hT.und hi hz0 hz1 hz2 hT.zs hT.pos _ n xs hs hown1 ⟨g, 0, none⟩ 1 1 cs.toList hx hsrc.len
    (fun j u hu => ?_) h1 (Nat.le_trans hlen (by unfold maxLen; decide)) hby hb1.size fun v' w' hown' hg' hnil => ?_
  · have hj := hsrc.cell hu
    unfold Addr.add
    split
    · rename_i h0; rw [h0] at hj; exact hj
    · exact hj
  · have hbel : Bel wB w' := hb1.grown hg' (fun k hk => by
      rcases hown1.block with h0 | ⟨g, h0, hge, _⟩
      · rw [h0] at hk; cases hk
      · rw [h0] at hk; injection hk with hk; omega) hnil
    obtain ⟨y, rfl⟩ := ext_of hbel
    have hv : ∃ A' c'', v' = .slice A' (n + 1) c'' := by
      rcases hown'.2 with ⟨hv, hn⟩ | ⟨g, cap, cur, hv, _⟩
      · exact ⟨none, 0, by rw [hv, hn]⟩
      · exact ⟨_, _, hv⟩
    obtain ⟨A', c'', rfl⟩ := hv
    refine h A' c'' y hown' fun p u hp0 hp1 hpu => ?_
    rw [hg'.cell_far p (by simp; omega) ?_]
    · have := (World.grownBy_alloc W (.cells cs e') none).cell hpu (by simp)
      exact this
    · rcases hown.block with h0 | ⟨g, h0, hge, hlt⟩
      · rw [h0]; exact fun h => by cases h
      · rw [h0]; intro h; injection h with h; omega
end
end Go
