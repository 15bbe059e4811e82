/- Lists of asks and their bytes: the laws of layer 36 on lists, as plain mathematics. -/
import Derived.Test.YtijinelgbiombaaSpec36e
set_option linter.unusedSimpArgs false
set_option linter.unusedVariables false
namespace Go.Pel
open Go
theorem rdGo_len (f : Nat) : ∀ (l : List UInt8) (acc : List Ask), acc.length ≤ 120 → (rdGo f l acc).1.length ≤ 120 := by
  induction f with
  | zero => intro l acc h; exact h
  | succ f ih =>
    intro l acc h
    unfold rdGo
    split
    · exact h
    · split
      · simp
      · rename_i h2
        exact ih _ _ (by rw [List.length_append]; simp; omega)
theorem rd_len (l : List UInt8) : (rd l).1.length ≤ 120 := by
  unfold rd; split
  · simp
  · exact rdGo_len _ _ _ (by simp)
theorem wlGo_len (f : Nat) : ∀ (l : List UInt8) (acc : List Ask), acc.length ≤ 120 → (wlGo f l acc).1.length ≤ 120 := by
  induction f with
  | zero => intro l acc h; exact h
  | succ f ih =>
    intro l acc h
    unfold wlGo
    split
    · exact h
    · rename_i h2
      exact ih _ _ (by rw [List.length_append]; simp; omega)
theorem wl_len (l : List UInt8) : (wl l).1.length ≤ 120 := by
  unfold wl; split
  · simp
  · exact wlGo_len _ _ _ (by simp)
/-- the bytes of asks, one behind the other -/
def cat (l : List Ask) : List UInt8 := l.flatMap Ask.bytes
theorem cat_cons (x : Ask) (l : List Ask) : cat (x :: l) = x.bytes ++ cat l := by simp [cat]
theorem cat_append (l m : List Ask) : cat (l ++ m) = cat l ++ cat m := by simp [cat]
theorem cat_len (l : List Ask) : l.length ≤ (cat l).length ∧ (cat l).length ≤ 9 * l.length := by
  induction l with
  | nil => simp [cat]
  | cons x l ih => rw [cat_cons, List.length_append, List.length_cons]; have := bytes_pos x; omega
theorem wrGo_all {l : List Ask} (h : ∀ x ∈ l, x.chk = 0) (acc : List UInt8) : wrGo l acc = (acc ++ cat l, 0) := by
  induction l generalizing acc with
  | nil => simp [wrGo, cat]
  | cons x l ih => rw [wrGo_ok (h x (List.mem_cons_self ..)), ih (fun y hy => h y (List.mem_cons_of_mem _ hy)), cat_cons, List.append_assoc]
theorem wrGo_zero {l : List Ask} : ∀ {acc : List UInt8}, (wrGo l acc).2 = 0 → ∀ x ∈ l, x.chk = 0 := by
  induction l with
  | nil => intro acc _ x hx; cases hx
  | cons y l ih =>
    intro acc h x hx
    rcases chk_cases y with h0 | h8
    · rw [wrGo_ok h0] at h
      rcases List.mem_cons.1 hx with rfl | hx
      · exact h0
      · exact ih h x hx
    · rw [wrGo_bad h8] at h; exact absurd h (by decide)
theorem wr_zero {l : List Ask} (h : (wr l).2 = 0) : l.length ≤ 120 ∧ (∀ x ∈ l, x.chk = 0) ∧ wr l = (cat l, 0) := by
  by_cases hl : 120 < l.length
  · rw [wr_many hl] at h; exact absurd h (by decide)
  · rw [wr_go (by omega)] at h
    have h1 := wrGo_zero h
    exact ⟨by omega, h1, by rw [wr_go (by omega), wrGo_all h1]; rfl⟩
theorem wr_all {l : List Ask} (h : l.length ≤ 120) (h1 : ∀ x ∈ l, x.chk = 0) : wr l = (cat l, 0) := by rw [wr_go h, wrGo_all h1]; rfl
theorem wrGo_err {l : List Ask} : ∀ {acc : List UInt8}, (wrGo l acc).2 = 0 ∨ wrGo l acc = ([], 8) := by
  induction l with
  | nil => intro acc; exact .inl rfl
  | cons y l ih =>
    intro acc
    rcases chk_cases y with h0 | h8
    · rw [wrGo_ok h0]; exact ih
    · rw [wrGo_bad h8]; exact .inr rfl
theorem wr_err {l : List Ask} (hl : l.length ≤ 120) : (wr l).2 = 0 ∨ wr l = ([], 8) := by rw [wr_go hl]; exact wrGo_err
/-- Read of what was written -/
theorem rdGo_cat {l : List Ask} (h : ∀ x ∈ l, x.chk = 0) : ∀ {f : Nat} {acc : List Ask}, l.length ≤ f → acc.length + l.length ≤ 120 → rdGo f (cat l) acc = (acc ++ l, 0) := by
  induction l with
  | nil => intro f acc _ _; rw [show cat [] = [] from rfl, rdGo_nil]; simp
  | cons x l ih =>
    intro f acc hf hacc
    simp only [List.length_cons] at hf hacc
    obtain ⟨f, rfl⟩ : ∃ f', f = f' + 1 := ⟨f - 1, by omega⟩
    rw [cat_cons]
    obtain ⟨h1, h2, h3⟩ := first_bytes (h x (List.mem_cons_self ..)) (cat l)
    rw [rdGo_ok h1 (by omega), h2, h3, List.drop_left, ih (fun y hy => h y (List.mem_cons_of_mem _ hy)) (by omega) (by rw [List.length_append]; simp; omega)]
    simp
theorem rd_cat {l : List Ask} (h : ∀ x ∈ l, x.chk = 0) (hl : l.length ≤ 120) (hb : (cat l).length ≤ 1100) : rd (cat l) = (l, 0) := by
  rw [rd_go hb, rdGo_cat h (cat_len l).1 (by simpa using hl)]; rfl
/-- Write of what was read -/
theorem rdGo_back {f : Nat} : ∀ {l : List UInt8} {acc : List Ask}, l.length ≤ f → (rdGo f l acc).2 = 0 → ∃ m, rdGo f l acc = (acc ++ m, 0) ∧ cat m = l ∧ ∀ x ∈ m, x.chk = 0 := by
  induction f with
  | zero =>
    intro l acc hl _
    obtain rfl : l = [] := List.eq_nil_of_length_eq_zero (by omega)
    exact ⟨[], by simp [rdGo], rfl, fun x hx => by cases hx⟩
  | succ f ih =>
    intro l acc hl h
    by_cases h0 : l = []
    · subst h0; rw [rdGo_nil]; exact ⟨[], by simp, rfl, fun x hx => by cases hx⟩
    · by_cases hb : firstOk l = false ∨ acc.length = 120
      · rw [rdGo_bad h0 hb] at h; exact absurd h (by decide)
      · have hok : firstOk l = true := by
          cases hc : firstOk l
          · exact absurd (.inl hc) hb
          · rfl
        have h120 : ¬ acc.length = 120 := fun hc => hb (.inr hc)
        rw [rdGo_ok hok h120] at h ⊢
        have hbf := bytes_first hok
        obtain ⟨hlen, hchk⟩ := firstOk_len hok
        have hp := askLen_pos (plainAsk l).k
        rw [firstLen_yes hok, firstAsk_yes hok] at h ⊢
        obtain ⟨m, hm, hcat, hall⟩ := ih (by rw [List.length_drop]; omega) h
        refine ⟨plainAsk l :: m, by rw [hm, List.append_assoc]; rfl, by rw [cat_cons, hbf, hcat, List.take_append_drop], fun x hx => ?_⟩
        rcases List.mem_cons.1 hx with rfl | hx
        · exact hchk
        · exact hall x hx
theorem rd_back {l : List UInt8} (h : (rd l).2 = 0) : wr (rd l).1 = (l, 0) ∧ (∀ x ∈ (rd l).1, x.chk = 0) := by
  by_cases hl : 1100 < l.length
  · rw [rd_many hl] at h; exact absurd h (by decide)
  · have h' := h
    rw [rd_go (by omega)] at h
    obtain ⟨m, hm, hcat, hall⟩ := rdGo_back (Nat.le_refl _) h
    have e : (rd l).1 = m := by rw [rd_go (by omega), hm]; rfl
    have h120 := rd_len l
    rw [e] at h120 ⊢
    exact ⟨by rw [wr_all h120 hall, hcat], hall⟩
theorem rdGo_err (f : Nat) : ∀ (l : List UInt8) (acc : List Ask), (rdGo f l acc).2 = 0 ∨ rdGo f l acc = ([], 12) := by
  induction f with
  | zero => intro l acc; exact .inl rfl
  | succ f ih =>
    intro l acc
    unfold rdGo
    split
    · exact .inl rfl
    · split
      · exact .inr rfl
      · exact ih _ _
theorem rd_err {l : List UInt8} (hl : l.length ≤ 1100) : (rd l).2 = 0 ∨ rd l = ([], 12) := by rw [rd_go hl]; exact rdGo_err _ _ _
/-- valid asks have numbers that fit -/
theorem fits_of_chk {x : Ask} (h : x.chk = 0) : x.Fits := by
  obtain ⟨k, i, a, b, j, n, d⟩ := x
  have hc : _ := askChk_zero (k := k) (i := i) (a := a) (b := b) (j := j) (n := n) (d := d) h
  rcases hc with ⟨hk, hp, rfl, rfl, rfl⟩ | ⟨rfl, hj, rfl, rfl, rfl, rfl, rfl⟩ | ⟨rfl, hr, rfl, rfl, rfl, rfl⟩ | ⟨hk, rfl, rfl, rfl, rfl, rfl, rfl⟩ <;> constructor <;> simp only <;> omega
end Go.Pel
