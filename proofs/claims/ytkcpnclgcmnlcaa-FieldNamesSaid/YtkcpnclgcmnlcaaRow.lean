/- Rows that a call owns, known whole: copy, append in place, append of zeros that grows, clear. -/
import Derived.Test.YtkcpnclgcmnlcaaMem3
import Derived.Lib.Hide
import Derived.Laws.CopyRow
import Derived.Lib.SliceRun
import Derived.Lib.AppendZerosOnto
import Derived.Lib.AppendZeros
import Derived.Lib.Overlaps
import Derived.Deep.DeepAppendRoom
set_option linter.unusedSimpArgs false
set_option linter.unusedVariables false
namespace Go
open RowKit
/-- block g is a row of cap elements, not frozen, the call's own from 'base' on -/
def Row (w : World) (base : Nat) (e : TypeId) (size g cap : Nat) (cur : List Value) : Prop :=
  base ≤ g ∧ w.heap[g]? = some (.cells cur.toArray e (0, 0)) ∧ cap ≤ maxLen ∧ cur.length = cap * size
section
variable {w : World} {base : Nat} {e : TypeId} {size g cap : Nat} {cur : List Value}
theorem Row.lt (h : Row w base e size g cap cur) : g < w.heap.size := (Array.getElem?_eq_some_iff.1 h.2.1).1
theorem Row.len (h : Row w base e size g cap cur) : cur.length = cap * size := h.2.2.2
theorem Row.own (h : Row w base e size g cap cur) {n : Nat} (hn : n ≤ cap) : Own w base e size (some ⟨g, 0, none⟩) n cap (cur.take (n * size)) :=
  ⟨by rw [List.length_take, h.len]; exact Nat.min_eq_left (Nat.mul_le_mul_right _ hn), .inr ⟨g, cap, cur.toArray, rfl, h.1, h.2.1, hn, h.2.2.1, by simpa using h.len, by simp⟩⟩
theorem Own.row {A : Option Addr} {n c : Nat} {xs : List Value} (h : Own w base e size A n c xs) : (A = none ∧ n = 0 ∧ c = 0 ∧ xs = []) ∨ ∃ g cur, A = some ⟨g, 0, none⟩ ∧ Row w base e size g c cur ∧ n ≤ c ∧ cur.take (n * size) = xs := by
  rcases h.2 with ⟨hv, hn⟩ | ⟨g, cap, cur, hv, hb, hg, hnc, hm, hs, ht⟩
  · injection hv with h1 h2 h3
    refine .inl ⟨h1, hn, h3, List.eq_nil_of_length_eq_zero ?_⟩
    rw [h.1, hn, Nat.zero_mul]
  · injection hv with h1 h2 h3
    subst h1 h3
    exact .inr ⟨g, cur.toList, rfl, ⟨hb, by simpa using hg, hm, by simpa using hs⟩, hnc, ht⟩
theorem Row.cell (h : Row w base e size g cap cur) {j : Nat} {u : Value} (hu : cur[j]? = some u) : w.cell? ⟨g, j, none⟩ = some u := by
  simp [World.cell?, h.2.1, hu]
theorem Row.frozen (h : Row w base e size g cap cur) (j : Nat) : w.frozen? ⟨g, j, none⟩ = false := by
  simp [World.frozen?, h.2.1]
theorem Row.sl (h : Row w base e size g cap cur) {i n c : Nat} {xs : List Value} (hi : i + n ≤ cap) (hnc : n ≤ c) (hx : (cur.drop (i * size)).take (n * size) = xs) : Sl w size (some ⟨g, i * size, none⟩) n c xs := by
  have hle : i * size + n * size ≤ cap * size := by rw [← Nat.add_mul]; exact Nat.mul_le_mul_right _ hi
  refine ⟨hnc, by rw [← hx, List.length_take, List.length_drop, h.len]; omega, fun _ => ⟨g, _, rfl, h.lt, fun j u hu => h.cell ?_⟩⟩
  rw [← hx, List.getElem?_take] at hu
  split at hu
  · rwa [List.getElem?_drop] at hu
  · cases hu
theorem Row.set (h : Row w base e size g cap cur) {cur' : List Value} (hs : cur'.length = cur.length) : Row (w.setRow g cur'.toArray) base e size g cap cur' :=
  ⟨h.1, setRow_heap w g _ _ e _ h.2.1, h.2.2.1, by rw [hs]; exact h.len⟩
theorem Row.bel_set (h : Row w base e size g cap cur) {wB : World} (hb : Bel wB w) (hB : wB.heap.size ≤ g) (cur' : Array Value) : Bel wB (w.setRow g cur') :=
  ⟨⟨hb.os, hb.tape, hb.output, by unfold World.setRow; simpa using hb.size, fun k hk => by rw [setRow_other w g k cur' (by omega)]; exact hb.block k hk⟩, hb.mono⟩
theorem Row.bel {w' : World} (h : Row w base e size g cap cur) (hb : Bel w w') : Row w' base e size g cap cur := ⟨h.1, by rw [hb.block g h.lt]; exact h.2.1, h.2.2⟩
theorem Row.base_le {base' : Nat} (h : Row w base e size g cap cur) (hb : base' ≤ base) : Row w base' e size g cap cur := ⟨Nat.le_trans hb h.1, h.2⟩
theorem Row.alloc_new (W : World) {base cap : Nat} (cs : Array Value) (e : TypeId) {size : Nat} (hB : base ≤ W.heap.size) (hm : cap ≤ maxLen) (hs : cs.size = cap * size) : Row (W.alloc (.cells cs e)) base e size W.heap.size cap cs.toList :=
  ⟨hB, by unfold World.alloc; simp, hm, by simpa using hs⟩
end
section
variable {P : Program} {ops : Array Oper} {rest : List Oper} {o : Oper} {a : Act} {Q : Exit → Act → World → Prop}
theorem run_copy_rowk {t e : TypeId} {z : Value} {size bytes : Nat} (hT : SlT P t e z size bytes) {W : World} {base g cap : Nat} {cur : List Value} (hg : Row W base e size g cap cur) (off dLen dCap : Nat) {ad : Addr} {sLen sCap : Nat} {cs : List Value} (ty : TypeId)
    (hn : cs.length = Nat.min sLen dLen * size) (hsrc : ∀ j v, cs[j]? = some v → W.cell? (ad.add j) = some v) (hfit : off + cs.length ≤ cur.length) (h1 : ∀ v ∈ cs, v.oneCell' = true) :
    (Builtin.copy_ #[t, t] ty #[.slice (some ⟨g, off, none⟩) dLen dCap, .slice (some ad) sLen sCap]).run P W = .ok (goInt (Nat.min sLen dLen)) (W.setRow g (cur.take off ++ cs ++ cur.drop (off + cs.length)).toArray) := by
  obtain ⟨i, hi, hz0, hz1, hz2⟩ := info_parts hT.info
  have hl := run_loadCells_list (P := P) W ad cs hsrc
  have hst := run_storeCells_at P g off e cs 0 cur.toArray W hg.2.1 (by simpa using hfit) h1
  simp only [Nat.add_zero] at hst
  have hcnt : Nat.min sLen dLen * i.size = cs.length := by rw [hz1, hn]
  simp [Builtin.copy_, run_underlying hT.und, Builtin.lenOf, Builtin.firstCells, sizeOf, typeInfo, hi, hcnt, hl, hst]
/-- copy into a row of the call's own -/
theorem copy_row {t e : TypeId} {z : Value} {size bytes : Nat} (hT : SlT P t e z size bytes) {W : World} {base g cap : Nat} {cur : List Value} (hg : Row W base e size g cap cur) (off dLen dCap : Nat) {b so sLen sCap : Nat} (cs : List Value)
    (hn : cs.length = Nat.min sLen dLen * size) (hsrc : ∀ j v, cs[j]? = some v → W.cell? ⟨b, so + j, none⟩ = some v) (hfit : off + cs.length ≤ cur.length) (h1 : ∀ v ∈ cs, v.oneCell' = true)
    (hgd : o.guard = none) (d s : Operand) (ho : o.op = .call { callee := .builtin .copy, args := #[d, s], argTypes := #[t, t] })
    (hd : a.eval d = .slice (some ⟨g, off, none⟩) dLen dCap) (hs : a.eval s = .slice (some ⟨b, so, none⟩) sLen sCap)
    (h : wpList P ops Q rest (a.put o.dst (goInt (Nat.min sLen dLen))) (W.setRow g (cur.take off ++ cs ++ cur.drop (off + cs.length)).toArray)) : wpList P ops Q (o :: rest) a W := by
  have hr := run_copy_rowk (P := P) hT hg off dLen dCap (ad := ⟨b, so, none⟩) (sLen := sLen) (sCap := sCap) (cs := cs) o.type hn (fun j v hj => by
    have e1 : (⟨b, so, none⟩ : Addr).add j = ⟨b, so + j, none⟩ := by
      unfold Addr.add; split
      · rename_i h0; rw [h0]; rfl
      · rfl
    rw [e1]; exact hsrc j v hj) hfit h1
  refine wpList_plain hgd fun K hK => ?_
  unfold Oper.wp execOp
  simp only [ho, resolve, invoke, builtin, Sem.run_bind, Sem.run_pure, Result.andThen_ok, List.map_toArray, List.map_cons, List.map_nil, hd, hs, hr]
  exact hK _ _ h
theorem Row.oth {W : World} {base g cap : Nat} {e : TypeId} {size : Nat} {cur cur' : List Value} (hg : Row W base e size g cap cur) {s b so n c : Nat} {xs : List Value} (hne : b ≠ g) (h : Sl W s (some ⟨b, so, none⟩) n c xs) : Sl (W.setRow g cur'.toArray) s (some ⟨b, so, none⟩) n c xs :=
  ⟨h.1, h.2.1, fun hn => by
    obtain ⟨b', o', hA, hb, hc⟩ := h.2.2 hn
    injection hA with hA
    injection hA with e1 e2
    subst e1 e2
    refine ⟨b, so, rfl, by unfold World.setRow; simpa using hb, fun j u hu => ?_⟩
    have h1 := hc j u hu
    unfold World.cell? at h1 ⊢
    rw [setRow_other W g b _ hne]; exact h1⟩
/-- copy into a row of the call's own; the world behind it under a new name -/
theorem copy_rowC {t e : TypeId} {z : Value} {size bytes : Nat} (hT : SlT P t e z size bytes) {wB W : World} (hb : Bel wB W) {g cap : Nat} {cur : List Value} (hg : Row W wB.heap.size e size g cap cur) (off dLen dCap : Nat) {b so sLen sCap : Nat} (cs : List Value)
    (hn : cs.length = Nat.min sLen dLen * size) (hsrc : ∀ j v, cs[j]? = some v → W.cell? ⟨b, so + j, none⟩ = some v) (hfit : off + cs.length ≤ cur.length) (h1 : ∀ v ∈ cs, v.oneCell' = true)
    (hgd : o.guard = none) (d s : Operand) (ho : o.op = .call { callee := .builtin .copy, args := #[d, s], argTypes := #[t, t] })
    (hd : a.eval d = .slice (some ⟨g, off, none⟩) dLen dCap) (hs : a.eval s = .slice (some ⟨b, so, none⟩) sLen sCap)
    (h : ∀ W2 C, Hid (C = cur.take off ++ (cs ++ cur.drop (off + cs.length))) → Row W2 wB.heap.size e size g cap C → Bel wB W2 → (∀ s b so n c xs, b ≠ g → Sl W s (some ⟨b, so, none⟩) n c xs → Sl W2 s (some ⟨b, so, none⟩) n c xs) → wpList P ops Q rest (a.put o.dst (goInt (Nat.min sLen dLen))) W2) : wpList P ops Q (o :: rest) a W := by
  refine copy_row hT hg off dLen dCap cs hn hsrc hfit h1 hgd d s ho hd hs ?_
  rw [List.append_assoc]
  refine h _ _ (Lib.hid rfl) (hg.set ?_) (hg.bel_set hb hg.1 _) (fun s b so n c xs hne hS => hg.oth hne hS)
  simp only [List.length_append, List.length_take, List.length_drop]; omega
/-- append in place: there is room -/
theorem append_room {t e : TypeId} {z : Value} {size bytes : Nat} (hT : SlT P t e z size bytes) {W : World} {base g cap n : Nat} {cur : List Value} (hg : Row W base e size g cap cur) {b so m c' : Nat} {news : List Value} (hsrc : Sl W size (some ⟨b, so, none⟩) m c' news) (h1 : ∀ u ∈ news, u.oneCell' = true) (hroom : n + m ≤ cap)
    (hgd : o.guard = none) (s x : Operand) (ho : o.op = .call { callee := .builtin .append, args := #[s, x], argTypes := #[t, t] })
    (hs : a.eval s = .slice (some ⟨g, 0, none⟩) n cap) (hx : a.eval x = .slice (some ⟨b, so, none⟩) m c')
    (h : wpList P ops Q rest (a.put o.dst (.slice (some ⟨g, 0, none⟩) (n + m) cap)) (W.setRow g (cur.take (n * size) ++ news ++ cur.drop (n * size + news.length)).toArray)) : wpList P ops Q (o :: rest) a W := by
  obtain ⟨i, hi, hz0, hz1, hz2⟩ := info_parts hT.info
  have hfit : n * i.size + news.length ≤ cur.toArray.size := by rw [hsrc.len, hz1, List.size_toArray, hg.len, ← Nat.add_mul]; exact Nat.mul_le_mul_right _ hroom
  have add0 : ∀ (b off j : Nat), (⟨b, off, none⟩ : Addr).add j = ⟨b, off + j, none⟩ := fun b off j => by
    unfold Addr.add; split
    · rename_i h0; rw [h0]; rfl
    · rfl
  have hr := run_append_room (P := P) W t o.type e i hT.und hi g n cap cur.toArray hg.2.1 ⟨b, so, none⟩ m c' news (by rw [hz1]; exact hsrc.len) (fun j u hu => by rw [add0]; exact hsrc.cell hu) h1 hroom hfit
  rw [hz1] at hr
  refine wpList_plain hgd fun K hK => ?_
  unfold Oper.wp execOp
  simp only [ho, resolve, invoke, builtin, Sem.run_bind, Sem.run_pure, Result.andThen_ok, List.map_toArray, List.map_cons, List.map_nil, hs, hx, hr]
  exact hK _ _ (by simpa using h)
/-- append of k zero elements where there is no room: a new row -/
theorem append_zeros {t tn e : TypeId} {z : Value} {size bytes : Nat} (hT : SlT P t e z size bytes) (htn : P.underlying tn = some (.int .i64)) {wB W : World} (hb : Bel wB W) {b so n c k : Nat} {xs : List Value} (hsl : Sl W size (some ⟨b, so, none⟩) n c xs) (h0 : 0 < k) (hg : c < n + k) (hlen : n + k ≤ 4294967296) (hc : c ≤ 4294967296)
    (hgd : o.guard = none) (s x : Operand) (ho : o.op = .call { callee := .builtin .append, args := #[s, x], argTypes := #[t, tn] })
    (hs : a.eval s = .slice (some ⟨b, so, none⟩) n c) (hx : a.eval x = .int .i64 k)
    (h : ∀ G W' cur, Bel wB W' → Bel W W' → Row W' wB.heap.size e size W.heap.size G cur → n + k ≤ G → cur.take (n * size) = xs → wpList P ops Q rest (a.put o.dst (.slice (some ⟨W.heap.size, 0, none⟩) (n + k) G)) W') : wpList P ops Q (o :: rest) a W := by
  obtain ⟨i, hi, hz0, hz1, hz2⟩ := info_parts hT.info
  have add0 : ∀ (b off j : Nat), (⟨b, off, none⟩ : Addr).add j = ⟨b, off + j, none⟩ := fun b off j => by
    unfold Addr.add; split
    · rename_i h0; rw [h0]; rfl
    · rfl
  have hold : (Builtin.firstCells i.size n (.slice (some ⟨b, so, none⟩) n c)).run P W.drew = .ok xs.toArray W.drew := by
    have hl := run_loadCells_list (P := P) W.drew ⟨b, so, none⟩ xs (fun j v hj => by rw [add0]; exact (hsl.bel (Bel.refl W).drew).cell hj)
    have e1 : n * i.size = xs.length := by rw [hz1, hsl.len]
    simp [Builtin.firstCells, e1, hl]
  have hby : ∀ m : Nat, m ≤ 4294967296 → m * i.bytes ≤ 140737488355328 := fun m hm => by rw [hz2]; exact Nat.le_trans (Nat.mul_le_mul hm hT.small) (by decide)
  have hr := Lib.run_append_grow_zeros (P := P) W t tn o.type e i z .i64 .i64 hT.und htn hi hz0 (some ⟨b, so, none⟩) n c xs hold k h0 (by rw [hz1]; exact hT.pos) hg (by omega) (Nat.le_trans (hby k (by omega)) (by decide))
    (growslice_fits (by omega) (hby _ hlen))
  have hGn : n + k ≤ grownCap W (n + k) c e := grownCap_ge W _ _ _
  have hG2 := grownCap_le_maxLen W (n + k) c e (by unfold maxLen; omega)
  have hzc : ∀ m, (Builtin.zeroCells z.cells m).size = m * size := fun m => by rw [size_zeroCells, hT.zs, Nat.mul_comm]
  refine wpList_plain hgd fun K hK => ?_
  unfold Oper.wp execOp
  simp only [ho, resolve, invoke, builtin, Sem.run_bind, Sem.run_pure, Result.andThen_ok, List.map_toArray, List.map_cons, List.map_nil, hs, hx, hr]
  refine hK _ _ (h _ _ _ ((hb.drew).alloc _) (((Bel.refl W).drew).alloc _) (Row.alloc_new W.drew _ e hb.size hG2 ?_) hGn ?_)
  · simp only [Array.size_append, hzc, List.size_toArray, hsl.len]
    rw [← Nat.add_mul, ← Nat.add_mul]
    congr 1; omega
  · simp only [Array.toList_append, List.append_assoc]
    rw [← hsl.len, List.take_left]
/-- clear of a part of a row -/
theorem clear_row {t e : TypeId} {z : Value} {size bytes : Nat} (hT : SlT P t e z size bytes) (hz : ∀ w, (zeroValue e).run P w = .ok z w) (h1 : ∀ u ∈ z.cells.toList, u.oneCell' = true) {W : World} {base g cap i n c : Nat} {cur : List Value} (hg : Row W base e size g cap cur) (hin : i + n ≤ cap)
    (hgd : o.guard = none) (s : Operand) (ho : o.op = .call { callee := .builtin .clear, args := #[s], argTypes := #[t] })
    (hs : a.eval s = .slice (some ⟨g, i * size, none⟩) n c)
    (h : ∀ cur', Row (W.setRow g cur'.toArray) base e size g cap cur' → cur'.take (i * size) = cur.take (i * size) → wpList P ops Q rest (a.put o.dst (.tuple #[])) (W.setRow g cur'.toArray)) : wpList P ops Q (o :: rest) a W := by
  have hself : W = W.setRow g cur.toArray := (setRow_self W g cur.toArray e (0, 0) hg.2.1).symm
  have hrun : ∃ cur' : List Value, cur'.length = cur.length ∧ cur'.take (i * size) = cur.take (i * size) ∧ (Builtin.clear_ #[t] o.type #[.slice (some ⟨g, i * size, none⟩) n c]).run P W = .ok (.tuple #[]) (W.setRow g cur'.toArray) := by
    cases n with
    | zero => exact ⟨cur, rfl, rfl, by rw [← hself]; simp [Builtin.clear_, run_underlying hT.und]⟩
    | succ n =>
      have hzs : (Builtin.zeroCells z.cells (n + 1)).toList.length = (n + 1) * size := by simp [size_zeroCells, hT.zs]
      have hone : ∀ v ∈ (Builtin.zeroCells z.cells (n + 1)).toList, v.oneCell' = true := by
        intro v hv
        have e1 : (Builtin.zeroCells z.cells (n + 1)).toList = (List.replicate (n + 1) z.cells.toList).flatten := made_mul z.cells (n + 1) (by rw [hT.zs]; exact hT.pos)
        rw [e1, List.mem_flatten] at hv
        obtain ⟨l, hl, hv⟩ := hv
        rw [List.eq_of_mem_replicate hl] at hv
        exact h1 v hv
      have hle : i * size + (n + 1) * size ≤ cap * size := by rw [← Nat.add_mul]; exact Nat.mul_le_mul_right _ hin
      have hst := run_storeCells_at P g (i * size) e (Builtin.zeroCells z.cells (n + 1)).toList 0 cur.toArray W hg.2.1 (by rw [hzs, List.size_toArray, hg.len]; omega) hone
      simp only [Nat.add_zero] at hst
      refine ⟨cur.take (i * size) ++ (Builtin.zeroCells z.cells (n + 1)).toList ++ cur.drop (i * size + (Builtin.zeroCells z.cells (n + 1)).toList.length), ?_, ?_, ?_⟩
      · simp only [List.length_append, List.length_take, List.length_drop, hzs, hg.len]; omega
      · rw [List.append_assoc, List.take_append_of_le_length (by rw [List.length_take, hg.len]; omega), List.take_take, Nat.min_self]
      · simp [Builtin.clear_, run_underlying hT.und, hz, hst]
  obtain ⟨cur', hl, ht, hr⟩ := hrun
  refine wpList_plain hgd fun K hK => ?_
  unfold Oper.wp execOp
  simp only [ho, resolve, invoke, builtin, Sem.run_bind, Sem.run_pure, Result.andThen_ok, List.map_toArray, List.map_cons, List.map_nil, hs, hr]
  exact hK _ _ (h cur' (hg.set hl) ht)
theorem append_roomC {t e : TypeId} {z : Value} {size bytes : Nat} (hT : SlT P t e z size bytes) {wB W : World} (hb : Bel wB W) {g cap n : Nat} {cur : List Value} (hg : Row W wB.heap.size e size g cap cur) {b so m c' : Nat} {news : List Value} (hsrc : Sl W size (some ⟨b, so, none⟩) m c' news) (h1 : ∀ u ∈ news, u.oneCell' = true) (hroom : n + m ≤ cap)
    (hgd : o.guard = none) (s x : Operand) (ho : o.op = .call { callee := .builtin .append, args := #[s, x], argTypes := #[t, t] })
    (hs : a.eval s = .slice (some ⟨g, 0, none⟩) n cap) (hx : a.eval x = .slice (some ⟨b, so, none⟩) m c')
    (h : ∀ W2 C, Hid (C = cur.take (n * size) ++ (news ++ cur.drop (n * size + news.length))) → Row W2 wB.heap.size e size g cap C → Bel wB W2 → (∀ s b so n c xs, b ≠ g → Sl W s (some ⟨b, so, none⟩) n c xs → Sl W2 s (some ⟨b, so, none⟩) n c xs) → wpList P ops Q rest (a.put o.dst (.slice (some ⟨g, 0, none⟩) (n + m) cap)) W2) : wpList P ops Q (o :: rest) a W := by
  refine append_room hT hg hsrc h1 hroom hgd s x ho hs hx ?_
  rw [List.append_assoc]
  refine h _ _ (Lib.hid rfl) (hg.set ?_) (hg.bel_set hb hg.1 _) (fun s b so n c xs hne hS => hg.oth hne hS)
  have : n * size + m * size ≤ cap * size := by rw [← Nat.add_mul]; exact Nat.mul_le_mul_right _ hroom
  simp only [List.length_append, List.length_take, List.length_drop, hsrc.len, hg.len]; omega
theorem clear_rowC {t e : TypeId} {z : Value} {size bytes : Nat} (hT : SlT P t e z size bytes) (hz : ∀ w, (zeroValue e).run P w = .ok z w) (h1 : ∀ u ∈ z.cells.toList, u.oneCell' = true) {wB W : World} (hb : Bel wB W) {g cap i n c : Nat} {cur : List Value} (hg : Row W wB.heap.size e size g cap cur) (hin : i + n ≤ cap)
    (hgd : o.guard = none) (s : Operand) (ho : o.op = .call { callee := .builtin .clear, args := #[s], argTypes := #[t] })
    (hs : a.eval s = .slice (some ⟨g, i * size, none⟩) n c)
    (h : ∀ W2 C, Row W2 wB.heap.size e size g cap C → Bel wB W2 → Hid (C.take (i * size) = cur.take (i * size)) → wpList P ops Q rest (a.put o.dst (.tuple #[])) W2) : wpList P ops Q (o :: rest) a W :=
  clear_row hT hz h1 hg hin hgd s ho hs fun C hr ht => h _ _ hr (hg.bel_set hb hg.1 _) (Lib.hid ht)
end
end Go
