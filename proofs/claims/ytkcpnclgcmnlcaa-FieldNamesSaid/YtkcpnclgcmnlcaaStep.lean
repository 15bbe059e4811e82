/- append inside a region that draws its order. -/
import Derived.Test.YtkcpnclgcmnlcaaMem3
import Derived.Deep.RegionHeld3
import Derived.Deep.RegionLaw
import Derived.Deep.MidRow
set_option linter.unusedSimpArgs false
set_option linter.unusedVariables false
namespace Go
open RowKit
section
variable {P : Program} {ops : Array Oper} {o : Oper} {a : Act} {K : Act → World → Prop} {Q : Exit → Act → World → Prop} {E : Prop}
theorem oper_append_any {t e : TypeId} {z : Value} {size bytes : Nat} (hT : SlT P t e z size bytes) {wB W0 W1 W : World} (hb : Bel wB W)
    {A : Option Addr} {n c : Nat} {xs : List Value} (hown : Own W0 wB.heap.size e size A n c xs) (hb0 : Bel W0 W)
    {A1 : Option Addr} {m c' : Nat} {news : List Value} (hsrc : Sl W1 size A1 m c' news) (hb1 : Bel W1 W) (h1 : ∀ u ∈ news, u.oneCell' = true) (hnil : A1 = none → c' = 0) (hlen : n + m ≤ 4294967296)
    (s x : Operand) (ho : o.op = .call { callee := .builtin .append, args := #[s, x], argTypes := #[t, t] })
    (hs : a.eval s = .slice A n c) (hx : a.eval x = .slice A1 m c')
    (h : ∀ A' c'' y, Own (ext wB y) wB.heap.size e size A' (n + m) c'' (xs ++ news) → K (a.put o.dst (.slice A' (n + m) c'')) (ext wB y)) : Oper.wp P o a W K Q := by
  obtain ⟨i, hi, hz0, hz1, hz2⟩ := info_parts hT.info
  have hown' := hown.bel hb0
  cases A1 with
  | none =>
    have hm : m = 0 := Nat.eq_zero_of_not_pos fun hp => by obtain ⟨b, o', hA, _⟩ := hsrc.at_ hp; cases hA
    subst hm
    obtain rfl := hnil rfl
    have hn : news = [] := List.eq_nil_of_length_eq_zero (by simpa using hsrc.len)
    subst hn
    obtain ⟨y, rfl⟩ := ext_of hb
    have hrun := run_append_owned_none (P := P) (w := ext wB y) wB.heap.size t o.type e i size hT.und hi _ n xs hown'
    unfold Oper.wp execOp
    simp only [ho, resolve, invoke, builtin, Sem.run_bind, Sem.run_pure, Result.andThen_ok, List.map_toArray, List.map_cons, List.map_nil, hs, hx, hrun]
    exact h A c y (by simpa using hown')
  | some ad =>
    have hby : (n + m) * bytes ≤ 140737488355328 := Nat.le_trans (Nat.mul_le_mul hlen hT.small) (by decide)
    have hsrc' := hsrc.bel hb1
    refine wp_append_m s x t ho wB.heap.size e i z size bytes hT.und hi hz0 hz1 hz2 hT.zs hT.pos _ n xs hs hown' ad m c' news hx hsrc'.len
      (fun j u hu => ?_) h1 (Nat.le_trans hlen (by unfold maxLen; decide)) hby hb.size fun v' w' hown2 hg hmono => ?_
    · have hl : j < news.length := (List.getElem?_eq_some_iff.1 hu).1
      have hp : 0 < m := Nat.pos_of_ne_zero fun h0 => by rw [hsrc'.len, h0, Nat.zero_mul] at hl; omega
      obtain ⟨b, o', hA, _⟩ := hsrc'.at_ hp
      injection hA with hA
      subst hA
      have hj := hsrc'.cell hu
      unfold Addr.add
      split
      · rename_i h0; rw [h0] at hj; exact hj
      · exact hj
    · have hbel : Bel wB w' := hb.grown hg (fun k hk => by
        rcases hown'.block with h0 | ⟨g, h0, hge, _⟩
        · rw [h0] at hk; cases hk
        · rw [h0] at hk; injection hk with hk; omega) hmono
      obtain ⟨y, rfl⟩ := ext_of hbel
      have hv : ∃ A' c'', v' = .slice A' (n + m) c'' := by
        rcases hown2.2 with ⟨hv, hn⟩ | ⟨g, cap, cur, hv, _⟩
        · exact ⟨none, 0, by rw [hv, hn]⟩
        · exact ⟨_, _, hv⟩
      obtain ⟨A', c'', rfl⟩ := hv
      exact h A' c'' y hown2
theorem step_append_any {t e : TypeId} {z : Value} {size bytes : Nat} (hT : SlT P t e z size bytes) {wB W0 W1 W : World} (hb : Bel wB W)
    {A : Option Addr} {n c : Nat} {xs : List Value} (hown : Own W0 wB.heap.size e size A n c xs) (hb0 : Bel W0 W)
    {A1 : Option Addr} {m c' : Nat} {news : List Value} (hsrc : Sl W1 size A1 m c' news) (hb1 : Bel W1 W) (h1 : ∀ u ∈ news, u.oneCell' = true) (hnil : A1 = none → c' = 0) (hlen : n + m ≤ 4294967296)
    (hgd : o.guard = none) (s x : Operand) (ho : o.op = .call { callee := .builtin .append, args := #[s, x], argTypes := #[t, t] })
    (hs : a.eval s = .slice A n c) (hx : a.eval x = .slice A1 m c')
    (h : ∀ A' c'' y, Own (ext wB y) wB.heap.size e size A' (n + m) c'' (xs ++ news) → K (a.put o.dst (.slice A' (n + m) c'')) (ext wB y)) :
    if Region.wanted o (yielded ops a.tmps) = true then Oper.wp P o a W K Q else E := by
  have hw : Region.wanted o (yielded ops a.tmps) = true := by simp [Region.wanted, hgd]
  rw [if_pos hw]
  exact oper_append_any hT hb hown hb0 hsrc hb1 h1 hnil hlen s x ho hs hx h
/-- append of one element, just built -/
theorem step_append1 {t e e' : TypeId} {z : Value} {size bytes : Nat} (hT : SlT P t e z size bytes) {wB W0 W : World} (hb : Bel wB W)
    {A : Option Addr} {n c : Nat} {xs : List Value} (hown : Own W0 wB.heap.size e size A n c xs) (hb0 : Bel W0 W)
    {cs : Array Value} (h1 : ∀ u ∈ cs.toList, u.oneCell' = true) (hsz : cs.size = size) (hlen : n + 1 ≤ 4294967296)
    (hgd : o.guard = none) (s x : Operand) (ho : o.op = .call { callee := .builtin .append, args := #[s, x], argTypes := #[t, t] }) {g : Nat}
    (hs : a.eval s = .slice A n c) (hx : a.eval x = .slice (some ⟨g, 0, none⟩) 1 1) (hg : g = W.heap.size)
    (h : ∀ A' c'' y, Own (ext wB y) wB.heap.size e size A' (n + 1) c'' (xs ++ cs.toList) → K (a.put o.dst (.slice A' (n + 1) c'')) (ext wB y)) :
    if Region.wanted o (yielded ops a.tmps) = true then Oper.wp P o a (W.alloc (.cells cs e')) K Q else E :=
  step_append_any hT (hb.alloc _) hown (hb0.alloc _) (sl_new W cs e' size g hg hsz) (Bel.refl _) h1 (fun h => by cases h) hlen hgd s x ho hs hx h
end
end Go
namespace Go
open RowKit
def setL (xs : List Value) : Nat → List Value → List Value
  | _, [] => xs
  | o, v :: r => setL (xs.set o v) (o + 1) r
theorem setL_len : ∀ (vs : List Value) (o : Nat) (xs : List Value), (setL xs o vs).length = xs.length
  | [], _, _ => rfl
  | v :: r, o, xs => by rw [setL, setL_len r]; simp
theorem own_setCells {wB : World} {e : TypeId} {size g n c B : Nat} (hg : wB.heap.size ≤ g) : ∀ (vs : List Value) (o : Nat) (xs : List Value) (W : World), Bel wB W → Own W B e size (some ⟨g, 0, none⟩) n c xs →
    Bel wB (W.setCells g o vs) ∧ Own (W.setCells g o vs) B e size (some ⟨g, 0, none⟩) n c (setL xs o vs)
  | [], _, _, _, hb, h => ⟨hb, h⟩
  | v :: r, o, xs, W, hb, h => own_setCells hg r (o + 1) _ _ (hb.setCell (p := ⟨g, o, none⟩) hg v) (World.ownsRow.stored h o v).1
section
variable {P : Program} {ops : Array Oper} {rest : List Oper} {o : Oper} {a : Act} {Q : Exit → Act → World → Prop}
/-- a struct stored into a row of the call's own -/
theorem store_own {wB W : World} (hb : Bel wB W) {B g n c size : Nat} {e : TypeId} {xs : List Value} (hown : Own W B e size (some ⟨g, 0, none⟩) n c xs) (hg : wB.heap.size ≤ g) (off : Nat) (cells : Array Value) (hfit : off + cells.size ≤ xs.length) (hgd : o.guard = none) (ty : TypeId) (d v : Operand) (ho : o.op = .store ty d v) (hd : a.eval d = .pointer (some ⟨g, off, none⟩)) (hv : a.eval v = .agg cells) (hi : (P.info? ty).map (·.size) = some cells.size) (h1 : cells.all (·.oneCell') = true)
    (h : ∀ y, Own (ext wB y) B e size (some ⟨g, 0, none⟩) n c (setL xs off cells.toList) → wpList P ops Q rest (a.put o.dst undef) (ext wB y)) : wpList P ops Q (o :: rest) a W := by
  refine wpList_store_mid hgd ty d v ho g off cells hd hv (fun j hj => ?_) hi h1 ?_
  · have hl : off + j < xs.length := by omega
    obtain ⟨u, hu⟩ : ∃ u, xs[off + j]? = some u := ⟨_, List.getElem?_eq_getElem hl⟩
    exact ⟨by rw [own_cell hown hu]; rfl, own_frozen hown _⟩
  · obtain ⟨h2, h3⟩ := own_setCells hg cells.toList off xs W hb hown
    obtain ⟨y, hy⟩ := ext_of h2
    rw [hy] at h3 ⊢
    exact h y h3
end
end Go
namespace Go
open RowKit
theorem block_ne {a b g : Nat} (hne : b ≠ a) (h : some (⟨a, 0, none⟩ : Addr) = some ⟨g, 0, none⟩) : b ≠ g := by
  have e1 : a = g := by injection h with h; injection h
  rw [← e1]; exact hne
theorem own_other {W : World} {B n c b o size : Nat} {e : TypeId} {xs : List Value} {A : Option Addr} (h : Own W B e size A n c xs) (u : Value) (hne : ∀ g, A = some ⟨g, 0, none⟩ → b ≠ g) : Own (W.setCell ⟨b, o, none⟩ u) B e size A n c xs := by
  refine ⟨h.1, ?_⟩
  rcases h.2 with h2 | ⟨g, cap, cur, hv, hg, hh, r⟩
  · exact .inl h2
  · refine .inr ⟨g, cap, cur, hv, hg, ?_, r⟩
    have hbg : b ≠ g := hne g (by injection hv)
    have e1 : (W.setCell ⟨b, o, none⟩ u).heap[g]? = W.heap[g]? := by
      unfold World.setCell
      simp only [Array.getElem?_modify, if_neg hbg]
    rw [e1]; exact hh
end Go
