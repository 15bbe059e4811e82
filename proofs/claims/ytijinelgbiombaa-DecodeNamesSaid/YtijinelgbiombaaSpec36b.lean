/- Lists of asks: as cells, as bytes, out of bytes. -/
import Derived.Test.YtijinelgbiombaaSpec36
import Derived.Test.YtijinelgbiombaaMem
set_option linter.unusedSimpArgs false
set_option linter.unusedVariables false
namespace Go.Pel
open Go
deriving instance DecidableEq for Ask
def Ask.cells (x : Ask) : List Value := [.int .u8 x.k, .int .i64 x.i, .int .i64 x.a, .int .i64 x.b, .int .i64 x.j, .int .i64 x.n, .int .i64 x.d]
def va (l : List Ask) : List Value := l.flatMap Ask.cells
theorem va_length (l : List Ask) : (va l).length = l.length * 7 := by
  induction l with
  | nil => rfl
  | cons x l ih => simp only [va, List.flatMap_cons, List.length_append, List.length_cons] at ih ⊢; rw [ih]; simp [Ask.cells]; omega
theorem va_append (l m : List Ask) : va (l ++ m) = va l ++ va m := by simp [va]
theorem va_cons (x : Ask) (l : List Ask) : va (x :: l) = x.cells ++ va l := by simp [va]
theorem va_nil : va [] = [] := rfl
theorem va_get {l : List Ask} {i : Nat} {x : Ask} (h : l[i]? = some x) (j : Nat) (hj : j < 7) : (va l)[i * 7 + j]? = x.cells[j]? := by
  induction l generalizing i with
  | nil => simp at h
  | cons y l ih =>
    rw [va_cons]
    cases i with
    | zero =>
      simp only [List.getElem?_cons_zero, Option.some.injEq] at h
      subst h
      rw [Nat.zero_mul, Nat.zero_add, List.getElem?_append_left (by simpa [Ask.cells] using hj)]
    | succ i =>
      rw [List.getElem?_append_right (by simp [Ask.cells]; omega)]
      have e : (i + 1) * 7 + j - y.cells.length = i * 7 + j := by simp [Ask.cells]; omega
      rw [e]; exact ih (by simpa using h)
theorem va_one (l : List Ask) : ∀ u ∈ va l, u.oneCell' = true := by
  intro u hu
  simp only [va, List.mem_flatMap] at hu
  obtain ⟨x, _, hx⟩ := hu
  simp only [Ask.cells, List.mem_cons, List.not_mem_nil, or_false] at hx
  rcases hx with rfl | rfl | rfl | rfl | rfl | rfl | rfl <;> rfl
/-- an ask in a slice, cell by cell -/
theorem ask_at {w : World} {b o n c i : Nat} {l : List Ask} {x : Ask} (h : Sl w 7 (some ⟨b, o, none⟩) n c (va l)) (hx : l[i]? = some x) :
    w.cell? ⟨b, o + i * 7, none⟩ = some (.int .u8 x.k) ∧ w.cell? ⟨b, o + i * 7 + 1, none⟩ = some (.int .i64 x.i) ∧ w.cell? ⟨b, o + i * 7 + 2, none⟩ = some (.int .i64 x.a) ∧ w.cell? ⟨b, o + i * 7 + 3, none⟩ = some (.int .i64 x.b) ∧
    w.cell? ⟨b, o + i * 7 + 4, none⟩ = some (.int .i64 x.j) ∧ w.cell? ⟨b, o + i * 7 + 5, none⟩ = some (.int .i64 x.n) ∧ w.cell? ⟨b, o + i * 7 + 6, none⟩ = some (.int .i64 x.d) := by
  have f : ∀ j u, j < 7 → x.cells[j]? = some u → w.cell? ⟨b, o + i * 7 + j, none⟩ = some u := fun j u hj hu => by
    have := h.cell (j := i * 7 + j) (u := u) (by rw [va_get hx j hj]; exact hu)
    rw [← Nat.add_assoc] at this; exact this
  exact ⟨f 0 _ (by omega) rfl, f 1 _ (by omega) rfl, f 2 _ (by omega) rfl, f 3 _ (by omega) rfl, f 4 _ (by omega) rfl, f 5 _ (by omega) rfl, f 6 _ (by omega) rfl⟩
/-- numbers that fit -/
structure Ask.Fits (x : Ask) : Prop where
  k : 0 ≤ x.k ∧ x.k ≤ 255
  i : -9223372036854775808 ≤ x.i ∧ x.i ≤ 9223372036854775807
  a : -9223372036854775808 ≤ x.a ∧ x.a ≤ 9223372036854775807
  b : -9223372036854775808 ≤ x.b ∧ x.b ≤ 9223372036854775807
  j : -9223372036854775808 ≤ x.j ∧ x.j ≤ 9223372036854775807
  n : -9223372036854775808 ≤ x.n ∧ x.n ≤ 9223372036854775807
  d : -9223372036854775808 ≤ x.d ∧ x.d ≤ 9223372036854775807
/-- P36.2: Write -/
def wrGo : List Ask → List UInt8 → List UInt8 × Int
  | [], acc => (acc, 0)
  | x :: r, acc => if x.chk = 0 then wrGo r (acc ++ x.bytes) else ([], 8)
def wr (l : List Ask) : List UInt8 × Int := if 120 < l.length then ([], 4) else wrGo l []
theorem wrGo_ok {x : Ask} {r : List Ask} {acc : List UInt8} (h : x.chk = 0) : wrGo (x :: r) acc = wrGo r (acc ++ x.bytes) := by simp [wrGo, h]
theorem wrGo_bad {x : Ask} {r : List Ask} {acc : List UInt8} (h : x.chk = 8) : wrGo (x :: r) acc = ([], 8) := by simp [wrGo, h]
theorem wr_many {l : List Ask} (h : 120 < l.length) : wr l = ([], 4) := if_pos h
theorem wr_go {l : List Ask} (h : l.length ≤ 120) : wr l = wrGo l [] := if_neg (by omega)
theorem bytes_length (x : Ask) : x.bytes.length = askLen x.k := askBytes_length _ _ _ _ _ _ _
theorem chk_cases (x : Ask) : x.chk = 0 ∨ x.chk = 8 := askChk_cases _ _ _ _ _ _ _
/-- P36.2: Read -/
def rdGo : Nat → List UInt8 → List Ask → List Ask × Int
  | 0, _, acc => (acc, 0)
  | f + 1, l, acc => if l = [] then (acc, 0) else if firstOk l = false ∨ acc.length = 120 then ([], 12) else rdGo f (l.drop (firstLen l)) (acc ++ [firstAsk l])
def rd (l : List UInt8) : List Ask × Int := if 1100 < l.length then ([], 4) else rdGo l.length l []
theorem rd_many {l : List UInt8} (h : 1100 < l.length) : rd l = ([], 4) := if_pos h
theorem rd_go {l : List UInt8} (h : l.length ≤ 1100) : rd l = rdGo l.length l [] := if_neg (by omega)
theorem rdGo_nil (f : Nat) (acc : List Ask) : rdGo f [] acc = (acc, 0) := by cases f <;> simp [rdGo]
theorem rdGo_bad {f : Nat} {l : List UInt8} {acc : List Ask} (h0 : l ≠ []) (h : firstOk l = false ∨ acc.length = 120) : rdGo (f + 1) l acc = ([], 12) := by
  unfold rdGo; rw [if_neg h0, if_pos h]
theorem rdGo_ok {f : Nat} {l : List UInt8} {acc : List Ask} (h : firstOk l = true) (h1 : ¬ acc.length = 120) : rdGo (f + 1) l acc = rdGo f (l.drop (firstLen l)) (acc ++ [firstAsk l]) := by
  have h0 : l ≠ [] := by rintro rfl; simp [firstOk] at h
  rw [rdGo, if_neg h0, if_neg (by rw [h]; simp [h1])]
theorem firstOk_len {l : List UInt8} (h : firstOk l = true) : askLen (plainAsk l).k ≤ l.length ∧ (plainAsk l).chk = 0 := by
  unfold firstOk at h; simp only [decide_eq_true_eq] at h; exact ⟨h.2.2, h.2.1⟩
theorem chk_kind {x : Ask} (h : x.chk = 0) : 1 ≤ x.k ∧ x.k ≤ 6 := by
  rcases askChk_zero h with ⟨h, _⟩ | ⟨h, _⟩ | ⟨h, _⟩ | ⟨h, _⟩ <;> omega
theorem va_snoc (l : List Ask) (x : Ask) : va (l ++ [x]) = va l ++ x.cells := by simp [va]
end Go.Pel
namespace Go
/-- a slice from an element on -/
theorem Sl.drop {w : World} {size b o n c : Nat} {xs : List Value} (h : Sl w size (some ⟨b, o, none⟩) n c xs) {k : Nat} (hk : k ≤ n) : Sl w size (some ⟨b, o + k * size, none⟩) (n - k) (c - k) (xs.drop (k * size)) :=
  ⟨by have := h.1; omega, by rw [List.length_drop, h.2.1, Nat.sub_mul], fun hn => by
    obtain ⟨b', o', hA, hb, hc⟩ := h.2.2 (by omega)
    injection hA with hA
    injection hA with e1 e2
    subst e1 e2
    refine ⟨b, _, rfl, hb, fun j u hu => ?_⟩
    rw [List.getElem?_drop] at hu
    rw [Nat.add_assoc]
    exact hc _ u hu⟩
end Go
