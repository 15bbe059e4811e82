/- Plain functions for layer 36: asks and their bytes. -/
import Derived.Test.YtijinelgbiombaaSpec1
set_option linter.unusedSimpArgs false
set_option linter.unusedVariables false
namespace Go.Pel
/-- P36.1: a valid ask -/
def askOk (k i a b j n d : Int) : Bool :=
  if k = 1 ∨ k = 3 then pointOk i a b && (decide (j = 0) && (decide (n = 0) && decide (d = 0)))
  else if k = 2 then decide (0 ≤ j ∧ j ≤ 65535) && (decide (i = 0 ∧ a = 0 ∧ b = 0) && (decide (n = 0) && decide (d = 0)))
  else if k = 4 then decide (ratioAsked n d = 0) && (decide (i = 0 ∧ a = 0 ∧ b = 0) && decide (j = 0))
  else if k = 5 ∨ k = 6 then (decide (i = 0 ∧ a = 0 ∧ b = 0) && (decide (j = 0) && (decide (n = 0) && decide (d = 0))))
  else false
def askChk (k i a b j n d : Int) : Int := if askOk k i a b j n d then 0 else 8
theorem askChk_yes {k i a b j n d : Int} (h : askOk k i a b j n d = true) : askChk k i a b j n d = 0 := by unfold askChk; rw [if_pos h]
theorem askChk_no {k i a b j n d : Int} (h : askOk k i a b j n d = false) : askChk k i a b j n d = 8 := by unfold askChk; rw [if_neg (by rw [h]; decide)]
theorem askOk_put {k i a b j n d : Int} (hk : k = 1 ∨ k = 3) : askOk k i a b j n d = (pointOk i a b && (decide (j = 0) && (decide (n = 0) && decide (d = 0)))) := by unfold askOk; rw [if_pos hk]
theorem askOk_take {i a b j n d : Int} : askOk 2 i a b j n d = (decide (0 ≤ j ∧ j ≤ 65535) && (decide (i = 0 ∧ a = 0 ∧ b = 0) && (decide (n = 0) && decide (d = 0)))) := by unfold askOk; simp
theorem askOk_move {i a b j n d : Int} : askOk 4 i a b j n d = (decide (ratioAsked n d = 0) && (decide (i = 0 ∧ a = 0 ∧ b = 0) && decide (j = 0))) := by unfold askOk; simp
theorem askOk_bare {k i a b j n d : Int} (hk : k = 5 ∨ k = 6) : askOk k i a b j n d = (decide (i = 0 ∧ a = 0 ∧ b = 0) && (decide (j = 0) && (decide (n = 0) && decide (d = 0)))) := by
  unfold askOk; rw [if_neg (by omega), if_neg (by omega), if_neg (by omega), if_pos hk]
theorem askOk_none {k i a b j n d : Int} (hk : k < 1 ∨ 6 < k) : askOk k i a b j n d = false := by
  unfold askOk; rw [if_neg (by omega), if_neg (by omega), if_neg (by omega), if_neg (by omega)]
theorem pointOk_of {i a b : Int} (h : pointChk i a b = 0) : pointOk i a b = true := by unfold pointChk at h; split at h <;> simp_all
theorem pointOk_of_no {i a b : Int} (h : pointChk i a b = 8) : pointOk i a b = false := by unfold pointChk at h; split at h <;> simp_all
theorem askChk_put {k i a b j n d : Int} (hk : k = 1 ∨ k = 3) (hp : pointChk i a b = 0) (h : j = 0 ∧ n = 0 ∧ d = 0) : askChk k i a b j n d = 0 :=
  askChk_yes (by rw [askOk_put hk, pointOk_of hp]; simp [h])
theorem askChk_put_no {k i a b j n d : Int} (hk : k = 1 ∨ k = 3) (hp : pointChk i a b = 8 ∨ ¬ (j = 0 ∧ n = 0 ∧ d = 0)) : askChk k i a b j n d = 8 :=
  askChk_no (by
    rw [askOk_put hk]
    rcases hp with hp | hp
    · rw [pointOk_of_no hp]; rfl
    · simp; intro _ h1 h2 h3; exact hp ⟨h1, h2, h3⟩)
theorem askChk_take {i a b j n d : Int} (hp : 0 ≤ j ∧ j ≤ 65535) (h : i = 0 ∧ a = 0 ∧ b = 0 ∧ n = 0 ∧ d = 0) : askChk 2 i a b j n d = 0 :=
  askChk_yes (by rw [askOk_take]; simp [hp, h])
theorem askChk_take_no {i a b j n d : Int} (hp : ¬ (0 ≤ j ∧ j ≤ 65535) ∨ ¬ (i = 0 ∧ a = 0 ∧ b = 0 ∧ n = 0 ∧ d = 0)) : askChk 2 i a b j n d = 8 :=
  askChk_no (by rw [askOk_take]; simp; omega)
theorem askChk_move {i a b j n d : Int} (hp : ratioAsked n d = 0) (h : i = 0 ∧ a = 0 ∧ b = 0 ∧ j = 0) : askChk 4 i a b j n d = 0 :=
  askChk_yes (by rw [askOk_move]; simp [hp, h])
theorem askChk_move_no {i a b j n d : Int} (hp : ratioAsked n d ≠ 0 ∨ ¬ (i = 0 ∧ a = 0 ∧ b = 0 ∧ j = 0)) : askChk 4 i a b j n d = 8 :=
  askChk_no (by rw [askOk_move]; simp; omega)
theorem askChk_bare {k i a b j n d : Int} (hk : k = 5 ∨ k = 6) (h : i = 0 ∧ a = 0 ∧ b = 0 ∧ j = 0 ∧ n = 0 ∧ d = 0) : askChk k i a b j n d = 0 :=
  askChk_yes (by rw [askOk_bare hk]; simp [h])
theorem askChk_bare_no {k i a b j n d : Int} (hk : k = 5 ∨ k = 6) (h : ¬ (i = 0 ∧ a = 0 ∧ b = 0 ∧ j = 0 ∧ n = 0 ∧ d = 0)) : askChk k i a b j n d = 8 :=
  askChk_no (by rw [askOk_bare hk]; simp; omega)
theorem askChk_none {k i a b j n d : Int} (hk : k < 1 ∨ 6 < k) : askChk k i a b j n d = 8 := askChk_no (askOk_none hk)
theorem asked_cases (n d : Int) : ratioAsked n d = 0 ∨ ratioAsked n d = 2 ∨ ratioAsked n d = 8 := by unfold ratioAsked; split <;> (try split) <;> simp
/-- k bytes of a number, the highest first -/
def dig : Nat → Nat → List UInt8
  | 0, _ => []
  | k + 1, n => UInt8.ofNat (n / 256 ^ k) :: dig k n
theorem dig_length (k n : Nat) : (dig k n).length = k := by induction k with | zero => rfl | succ k ih => simp [dig, ih]
theorem dig_set (wd k n : Nat) (hk : k < wd) : (List.replicate (wd - k) (0 : UInt8) ++ dig k n).set (wd - 1 - k) (UInt8.ofNat (n / 256 ^ k)) = List.replicate (wd - (k + 1)) (0 : UInt8) ++ dig (k + 1) n := by
  have h1 : wd - k = (wd - (k + 1)) + 1 := by omega
  have h2 : wd - 1 - k = wd - (k + 1) := by omega
  rw [h1, h2, List.replicate_succ', List.append_assoc, List.set_append_right _ _ (by simp)]
  simp [dig]
theorem ofNat_mod (m : Nat) : ((UInt8.ofNat m).toNat : Int) = (m : Int) % 256 := by simp
/-- P36: the bytes of an ask, and how many they are -/
def askBytes (k i a b j n d : Int) : List UInt8 :=
  UInt8.ofNat k.toNat :: (if k = 1 ∨ k = 3 then dig 2 i.toNat ++ dig 3 (a + 1048576).toNat ++ dig 3 (b + 1048576).toNat
    else if k = 2 then dig 2 j.toNat else if k = 4 then dig 4 (n + 1073741824).toNat ++ dig 2 d.toNat else [])
def askLen (k : Int) : Nat := if k = 1 ∨ k = 3 then 9 else if k = 2 then 3 else if k = 4 then 7 else 1
theorem askLen_put {k : Int} (h : k = 1 ∨ k = 3) : askLen k = 9 := if_pos h
theorem askLen_bare {k : Int} (h : k < 1 ∨ 4 < k) : askLen k = 1 := by unfold askLen; rw [if_neg (by omega), if_neg (by omega), if_neg (by omega)]
theorem askBytes_put {k i a b j n d : Int} (h : k = 1 ∨ k = 3) : askBytes k i a b j n d = UInt8.ofNat k.toNat :: (dig 2 i.toNat ++ dig 3 (a + 1048576).toNat ++ dig 3 (b + 1048576).toNat) := by unfold askBytes; rw [if_pos h]
theorem askBytes_take {i a b j n d : Int} : askBytes 2 i a b j n d = 2 :: dig 2 j.toNat := by unfold askBytes; simp
theorem askBytes_move {i a b j n d : Int} : askBytes 4 i a b j n d = 4 :: (dig 4 (n + 1073741824).toNat ++ dig 2 d.toNat) := by unfold askBytes; simp
theorem askBytes_bare {k i a b j n d : Int} (h : k < 1 ∨ 4 < k) : askBytes k i a b j n d = [UInt8.ofNat k.toNat] := by unfold askBytes; rw [if_neg (by omega), if_neg (by omega), if_neg (by omega)]
theorem askBytes_length (k i a b j n d : Int) : (askBytes k i a b j n d).length = askLen k := by
  unfold askBytes askLen; split
  · simp [dig_length]
  · split
    · simp [dig_length]
    · split <;> simp [dig_length]
/-- a valid ask's numbers -/
theorem askChk_zero {k i a b j n d : Int} (h : askChk k i a b j n d = 0) :
    ((k = 1 ∨ k = 3) ∧ (0 ≤ i ∧ i ≤ 65535 ∧ -1048576 ≤ a ∧ a ≤ 1048576 ∧ -1048576 ≤ b ∧ b ≤ 1048576) ∧ j = 0 ∧ n = 0 ∧ d = 0) ∨
    (k = 2 ∧ (0 ≤ j ∧ j ≤ 65535) ∧ i = 0 ∧ a = 0 ∧ b = 0 ∧ n = 0 ∧ d = 0) ∨
    (k = 4 ∧ (ratioAsked n d = 0 ∧ n.natAbs ≤ 1073741824 ∧ 1 ≤ d ∧ d ≤ 1024) ∧ i = 0 ∧ a = 0 ∧ b = 0 ∧ j = 0) ∨
    ((k = 5 ∨ k = 6) ∧ i = 0 ∧ a = 0 ∧ b = 0 ∧ j = 0 ∧ n = 0 ∧ d = 0) := by
  have h' : askOk k i a b j n d = true := by unfold askChk at h; split at h <;> simp_all
  unfold askOk at h'
  split at h'
  · rename_i hk; left; simp [pointOk] at h'; omega
  · split at h'
    · right; left; simp at h'; omega
    · split at h'
      · right; right; left
        simp only [Bool.and_eq_true, decide_eq_true_eq] at h'
        have hr := h'.1
        unfold ratioAsked at hr
        split at hr
        · rename_i hok; unfold ratioOk at hok; simp at hok; split at hr <;> omega
        · omega
      · split at h'
        · right; right; right; simp at h'; omega
        · cases h'
theorem askChk_cases (k i a b j n d : Int) : askChk k i a b j n d = 0 ∨ askChk k i a b j n d = 8 := by unfold askChk; split <;> simp
/-- the number of wd bytes from an index on; bytes behind the end are 0 -/
def valAt (l : List UInt8) (at0 : Nat) : Nat → Nat
  | 0 => 0
  | k + 1 => valAt l at0 k * 256 + (l.getD (at0 + k) 0).toNat
theorem valAt_lt (l : List UInt8) (at0 k : Nat) : valAt l at0 k < 256 ^ k := by
  induction k with
  | zero => simp [valAt]
  | succ k ih => have := UInt8.toNat_lt (l.getD (at0 + k) 0); simp only [valAt, Nat.pow_succ]; omega
theorem valAt_bound (l : List UInt8) (at0 k : Nat) (h : k ≤ 7) : valAt l at0 k < 72057594037927936 :=
  Nat.lt_of_lt_of_le (valAt_lt l at0 k) (Nat.le_trans (Nat.pow_le_pow_right (by decide) h) (by decide))
theorem valAt_in {l : List UInt8} {at0 k : Nat} {x : UInt8} (h : l[at0 + k]? = some x) : valAt l at0 (k + 1) = valAt l at0 k * 256 + x.toNat := by simp [valAt, List.getD_eq_getElem?_getD, h]
theorem valAt_out {l : List UInt8} {at0 k : Nat} (h : l.length ≤ at0 + k) : valAt l at0 (k + 1) = valAt l at0 k * 256 := by simp [valAt, List.getD_eq_getElem?_getD, List.getElem?_eq_none h]
/-- an ask -/
structure Ask where
  k : Int
  i : Int
  a : Int
  b : Int
  j : Int
  n : Int
  d : Int
def Ask.zero : Ask := ⟨0, 0, 0, 0, 0, 0, 0⟩
def Ask.chk (x : Ask) : Int := askChk x.k x.i x.a x.b x.j x.n x.d
def Ask.bytes (x : Ask) : List UInt8 := askBytes x.k x.i x.a x.b x.j x.n x.d
/-- the ask that some bytes tell, as far as they go -/
def plainAsk (l : List UInt8) : Ask :=
  let k : Int := (l.getD 0 0).toNat
  if k = 1 ∨ k = 3 then ⟨k, valAt l 1 2, valAt l 3 3 - 1048576, valAt l 6 3 - 1048576, 0, 0, 0⟩
  else if k = 2 then ⟨2, 0, 0, 0, valAt l 1 2, 0, 0⟩
  else if k = 4 then ⟨4, 0, 0, 0, 0, valAt l 1 4 - 1073741824, valAt l 5 2⟩
  else ⟨k, 0, 0, 0, 0, 0, 0⟩
theorem plainAsk_put {l : List UInt8} {x : UInt8} (h : l[0]? = some x) (hk : (x.toNat : Int) = 1 ∨ (x.toNat : Int) = 3) : plainAsk l = ⟨x.toNat, valAt l 1 2, valAt l 3 3 - 1048576, valAt l 6 3 - 1048576, 0, 0, 0⟩ := by
  have e : l.getD 0 0 = x := by simp [List.getD_eq_getElem?_getD, h]
  unfold plainAsk; rw [e]; simp only; rw [if_pos hk]
theorem plainAsk_take {l : List UInt8} {x : UInt8} (h : l[0]? = some x) (hk : (x.toNat : Int) = 2) : plainAsk l = ⟨2, 0, 0, 0, valAt l 1 2, 0, 0⟩ := by
  have e : l.getD 0 0 = x := by simp [List.getD_eq_getElem?_getD, h]
  unfold plainAsk; rw [e]; simp only; rw [if_neg (by omega), if_pos hk]
theorem plainAsk_move {l : List UInt8} {x : UInt8} (h : l[0]? = some x) (hk : (x.toNat : Int) = 4) : plainAsk l = ⟨4, 0, 0, 0, 0, valAt l 1 4 - 1073741824, valAt l 5 2⟩ := by
  have e : l.getD 0 0 = x := by simp [List.getD_eq_getElem?_getD, h]
  unfold plainAsk; rw [e]; simp only; rw [if_neg (by omega), if_neg (by omega), if_pos hk]
theorem plainAsk_bare {l : List UInt8} {x : UInt8} (h : l[0]? = some x) (hk : (x.toNat : Int) < 1 ∨ 4 < (x.toNat : Int)) : plainAsk l = ⟨x.toNat, 0, 0, 0, 0, 0, 0⟩ := by
  have e : l.getD 0 0 = x := by simp [List.getD_eq_getElem?_getD, h]
  unfold plainAsk; rw [e]; simp only; rw [if_neg (by omega), if_neg (by omega), if_neg (by omega)]
theorem plainAsk_k {l : List UInt8} {x : UInt8} (h : l[0]? = some x) : (plainAsk l).k = x.toNat := by
  rcases (by omega : ((x.toNat : Int) = 1 ∨ (x.toNat : Int) = 3) ∨ (x.toNat : Int) = 2 ∨ (x.toNat : Int) = 4 ∨ ((x.toNat : Int) < 1 ∨ 4 < (x.toNat : Int))) with hk | hk | hk | hk
  · rw [plainAsk_put h hk]
  · rw [plainAsk_take h hk, hk]
  · rw [plainAsk_move h hk, hk]
  · rw [plainAsk_bare h hk]
theorem plainAsk_bad {l : List UInt8} {x : UInt8} (h : l[0]? = some x) (hk : (x.toNat : Int) < 1 ∨ 6 < (x.toNat : Int)) : (plainAsk l).chk = 8 := by
  unfold Ask.chk; rw [plainAsk_k h]; exact askChk_none hk
/-- the ask with whose bytes some bytes begin, and how many these are; 0: none -/
def firstOk (l : List UInt8) : Bool := decide (l ≠ [] ∧ (plainAsk l).chk = 0 ∧ askLen (plainAsk l).k ≤ l.length)
def firstAsk (l : List UInt8) : Ask := if firstOk l then plainAsk l else Ask.zero
def firstLen (l : List UInt8) : Nat := if firstOk l then askLen (plainAsk l).k else 0
theorem firstOk_yes {l : List UInt8} (h0 : 0 < l.length) (h1 : (plainAsk l).chk = 0) (h2 : askLen (plainAsk l).k ≤ l.length) : firstOk l = true := by
  unfold firstOk; simp only [decide_eq_true_eq]; exact ⟨(by intro h; rw [h] at h0; cases h0), h1, h2⟩
theorem firstOk_no {l : List UInt8} (h : l.length = 0 ∨ (plainAsk l).chk ≠ 0 ∨ l.length < askLen (plainAsk l).k) : firstOk l = false := by
  unfold firstOk; simp only [decide_eq_false_iff_not]; rintro ⟨h0, h1, h2⟩
  rcases h with h | h | h
  · exact h0 (List.eq_nil_of_length_eq_zero h)
  · exact h h1
  · omega
theorem firstAsk_yes {l : List UInt8} (h : firstOk l = true) : firstAsk l = plainAsk l := by unfold firstAsk; rw [if_pos h]
theorem firstAsk_no {l : List UInt8} (h : firstOk l = false) : firstAsk l = Ask.zero := by unfold firstAsk; rw [if_neg (by rw [h]; decide)]
theorem firstLen_yes {l : List UInt8} (h : firstOk l = true) : firstLen l = askLen (plainAsk l).k := by unfold firstLen; rw [if_pos h]
theorem firstLen_no {l : List UInt8} (h : firstOk l = false) : firstLen l = 0 := by unfold firstLen; rw [if_neg (by rw [h]; decide)]
theorem askLen_pos (k : Int) : 1 ≤ askLen k ∧ askLen k ≤ 9 := by unfold askLen; split <;> (try split) <;> (try split) <;> omega
theorem plainAsk_bound (l : List UInt8) : let x := plainAsk l; (0 ≤ x.k ∧ x.k ≤ 255) ∧ (-9223372036854775808 ≤ x.n ∧ x.n ≤ 9223372036854775807) ∧ (-9223372036854775808 ≤ x.d ∧ x.d ≤ 9223372036854775807) := by
  have v4 := valAt_bound l 1 4 (by omega)
  have v5 := valAt_bound l 5 2 (by omega)
  have := UInt8.toNat_lt (l.getD 0 0)
  unfold plainAsk
  simp only
  split
  · simp only; omega
  · split
    · simp only; omega
    · split <;> (simp only; omega)
def decAsk (l : List UInt8) : Ask := if 1100 < l.length then Ask.zero else firstAsk l
def decLen (l : List UInt8) : Nat := if 1100 < l.length then 0 else firstLen l
def decErr (l : List UInt8) : Int := if 1100 < l.length then 4 else if firstLen l = 0 then 12 else 0
theorem dec_many {l : List UInt8} (h : 1100 < l.length) : decAsk l = Ask.zero ∧ decLen l = 0 ∧ decErr l = 4 := by unfold decAsk decLen decErr; simp [h]
theorem first_zero {l : List UInt8} (h : firstLen l = 0) : firstAsk l = Ask.zero := by
  apply firstAsk_no
  cases hc : firstOk l
  · rfl
  · rw [firstLen_yes hc] at h; have := (askLen_pos (plainAsk l).k).1; omega
theorem dec_none {l : List UInt8} (h : l.length ≤ 1100) (h2 : firstLen l = 0) : decAsk l = Ask.zero ∧ decLen l = 0 ∧ decErr l = 12 := by
  unfold decAsk decLen decErr; rw [if_neg (by omega), if_neg (by omega), if_neg (by omega), if_pos h2]; exact ⟨first_zero h2, h2, rfl⟩
theorem dec_some {l : List UInt8} (h : l.length ≤ 1100) (h2 : ¬ firstLen l = 0) : decAsk l = firstAsk l ∧ decLen l = firstLen l ∧ decErr l = 0 := by
  unfold decAsk decLen decErr; rw [if_neg (by omega), if_neg (by omega), if_neg (by omega), if_neg h2]; exact ⟨rfl, rfl, rfl⟩
def encBytes (k i a b j n d : Int) : List UInt8 := if askChk k i a b j n d = 0 then askBytes k i a b j n d else []
theorem encBytes_yes {k i a b j n d : Int} (h : askChk k i a b j n d = 0) : encBytes k i a b j n d = askBytes k i a b j n d := if_pos h
theorem encBytes_no {k i a b j n d : Int} (h : askChk k i a b j n d = 8) : encBytes k i a b j n d = [] := if_neg (by omega)
theorem firstOk_bad {l : List UInt8} {x : UInt8} (h : l[0]? = some x) (hk : (x.toNat : Int) < 1 ∨ 6 < (x.toNat : Int)) : firstOk l = false := firstOk_no (.inr (.inl (by rw [plainAsk_bad h hk]; decide)))
theorem firstOk_short {l : List UInt8} {x : UInt8} (h : l[0]? = some x) (hk : l.length < askLen x.toNat) : firstOk l = false := firstOk_no (.inr (.inr (by rw [plainAsk_k h]; exact hk)))
theorem firstOk_chk {l : List UInt8} {x : UInt8} (h : l[0]? = some x) (hk : askLen x.toNat ≤ l.length) : firstOk l = decide ((plainAsk l).chk = 0) := by
  have h0 : 0 < l.length := by have := (askLen_pos x.toNat).1; omega
  by_cases hc : (plainAsk l).chk = 0
  · rw [firstOk_yes h0 hc (by rw [plainAsk_k h]; exact hk)]; simp [hc]
  · rw [firstOk_no (.inr (.inl hc))]; simp [hc]
/-- more bytes -/
theorem valAt_step (l : List UInt8) (at0 k : Nat) (x : UInt8) (h : l[at0 + k]? = some x) : valAt l at0 (k + 1) = valAt l at0 k * 256 + x.toNat := valAt_in h
end Go.Pel
