/- The laws of layer 36 as plain mathematics: bytes of asks, back and forth. -/
import Derived.Test.YtijinelgbiombaaSpec36d
set_option linter.unusedSimpArgs false
set_option linter.unusedVariables false
namespace Go.Pel
open Go
theorem getD_left {l r : List UInt8} {j : Nat} (h : j < l.length) : (l ++ r).getD j 0 = l.getD j 0 := by
  simp only [List.getD_eq_getElem?_getD]; rw [List.getElem?_append_left h]
theorem getD_right {l r : List UInt8} {j : Nat} : (l ++ r).getD (l.length + j) 0 = r.getD j 0 := by
  simp only [List.getD_eq_getElem?_getD]; rw [List.getElem?_append_right (by omega)]; congr 2; omega
theorem valAt_append_left {l r : List UInt8} {a n : Nat} (h : a + n ≤ l.length) : valAt (l ++ r) a n = valAt l a n := by
  induction n with
  | zero => rfl
  | succ n ih => simp only [valAt]; rw [ih (by omega), getD_left (by omega)]
theorem valAt_append_right {l r : List UInt8} {a n k : Nat} (h : a = l.length + k) : valAt (l ++ r) a n = valAt r k n := by
  subst h
  induction n with
  | zero => rfl
  | succ n ih => simp only [valAt]; rw [ih, Nat.add_assoc, getD_right]
/-- the first bytes, from the front -/
theorem valAt_head (x : UInt8) (l : List UInt8) (n : Nat) : valAt (x :: l) 0 (n + 1) = x.toNat * 256 ^ n + valAt l 0 n := by
  induction n with
  | zero => simp [valAt]
  | succ n ih =>
    have e : (x :: l).getD (0 + (n + 1)) 0 = l.getD (0 + n) 0 := by
      rw [Nat.zero_add, Nat.zero_add]; simp
    rw [valAt, ih, e, valAt, Nat.pow_succ, Nat.add_mul, Nat.mul_assoc, Nat.add_assoc]
theorem dig_val (k n : Nat) : valAt (dig k n) 0 k = n % 256 ^ k := by
  induction k generalizing n with
  | zero => simp [valAt, Nat.mod_one]
  | succ k ih =>
    rw [dig, valAt_head, ih]
    have e : (UInt8.ofNat (n / 256 ^ k)).toNat = n / 256 ^ k % 256 := by simp
    rw [e, Nat.pow_succ, Nat.mod_mul, Nat.add_comm, Nat.mul_comm]
theorem valAt_dig {l r : List UInt8} {k n a : Nat} (h : n < 256 ^ k) (ha : a = l.length) : valAt (l ++ (dig k n ++ r)) a k = n := by
  rw [valAt_append_right (k := 0) (by omega), valAt_append_left (by rw [dig_length]; omega), dig_val, Nat.mod_eq_of_lt h]
theorem dig_of_val {l : List UInt8} {n : Nat} (h : l.length = n) : dig n (valAt l 0 n) = l := by
  induction l generalizing n with
  | nil => subst h; rfl
  | cons x l ih =>
    subst h
    rw [List.length_cons, dig, valAt_head]
    have hv := valAt_lt l 0 l.length
    have hp : 0 < 256 ^ l.length := Nat.pow_pos (by omega)
    have e1 : (x.toNat * 256 ^ l.length + valAt l 0 l.length) / 256 ^ l.length = x.toNat := by
      rw [Nat.mul_comm, Nat.mul_add_div hp, Nat.div_eq_of_lt hv, Nat.add_zero]
    rw [e1]
    have e2 : ∀ (m c v : Nat), dig m (c * 256 ^ m + v) = dig m v := by
      intro m
      induction m with
      | zero => intros; rfl
      | succ m ihm =>
        intro c v
        have hq : 0 < 256 ^ m := Nat.pow_pos (by omega)
        have e3 : (c * 256 ^ (m + 1) + v) = (c * 256) * 256 ^ m + v := by rw [Nat.pow_succ]; congr 1; rw [Nat.mul_assoc, Nat.mul_comm 256]
        have e4 : ((c * 256) * 256 ^ m + v) / 256 ^ m = c * 256 + v / 256 ^ m := by rw [Nat.mul_comm (c * 256), Nat.mul_add_div hq]
        simp only [dig]
        rw [e3, ihm, e4]
        congr 1
        apply UInt8.toNat_inj.1
        simp
    rw [e2, ih rfl]
    simp
theorem dig_valAt {l : List UInt8} {a n : Nat} (h : a + n ≤ l.length) : dig n (valAt l a n) = (l.drop a).take n := by
  have hl : ((l.drop a).take n).length = n := by rw [List.length_take, List.length_drop]; omega
  have e : valAt ((l.drop a).take n) 0 n = valAt l a n := by
    have h1 : l = l.take a ++ ((l.drop a).take n ++ (l.drop a).drop n) := by rw [List.take_append_drop, List.take_append_drop]
    have h2 : (l.take a).length = a := by rw [List.length_take]; omega
    conv => rhs; rw [h1]
    rw [valAt_append_right (k := 0) (by omega), valAt_append_left (by omega)]
  rw [← e, dig_of_val hl]
theorem byte_kind {k : Int} (h : 0 ≤ k ∧ k ≤ 255) : ((UInt8.ofNat k.toNat).toNat : Int) = k := by rw [ofNat_mod]; omega
theorem asked_zero {n d : Int} (h : ratioAsked n d = 0) : ratioOk n d = true ∧ n.natAbs ≤ 1073741824 ∧ d ≤ 1024 := by
  unfold ratioAsked at h; split at h
  · rename_i hok; split at h
    · rename_i hb; exact ⟨hok, hb⟩
    · omega
  · omega
/-- the ask that a valid ask's bytes tell, whatever stands behind them -/
theorem plainAsk_bytes {x : Ask} (h : x.chk = 0) (r : List UInt8) : plainAsk (x.bytes ++ r) = x := by
  obtain ⟨k, i, a, b, j, n, d⟩ := x
  have hc := askChk_zero h
  unfold Ask.bytes
  simp only at *
  rcases hc with ⟨hk, hp, rfl, rfl, rfl⟩ | ⟨rfl, hj, rfl, rfl, rfl, rfl, rfl⟩ | ⟨rfl, hr, rfl, rfl, rfl, rfl⟩ | ⟨hk, rfl, rfl, rfl, rfl, rfl, rfl⟩
  · rw [askBytes_put hk]
    have hb : ((UInt8.ofNat k.toNat).toNat : Int) = k := byte_kind (by omega)
    rw [List.cons_append, plainAsk_put (x := UInt8.ofNat k.toNat) rfl (by rw [hb]; exact hk), hb]
    have e : UInt8.ofNat k.toNat :: (dig 2 i.toNat ++ dig 3 (a + 1048576).toNat ++ dig 3 (b + 1048576).toNat ++ r) = [UInt8.ofNat k.toNat] ++ (dig 2 i.toNat ++ (dig 3 (a + 1048576).toNat ++ (dig 3 (b + 1048576).toNat ++ r))) := by simp
    have v1 : valAt (UInt8.ofNat k.toNat :: (dig 2 i.toNat ++ dig 3 (a + 1048576).toNat ++ dig 3 (b + 1048576).toNat ++ r)) 1 2 = i.toNat := by rw [e]; exact valAt_dig (by omega) rfl
    have v2 : valAt (UInt8.ofNat k.toNat :: (dig 2 i.toNat ++ dig 3 (a + 1048576).toNat ++ dig 3 (b + 1048576).toNat ++ r)) 3 3 = (a + 1048576).toNat := by
      rw [e, ← List.append_assoc]; exact valAt_dig (by omega) (by simp [dig_length])
    have v3 : valAt (UInt8.ofNat k.toNat :: (dig 2 i.toNat ++ dig 3 (a + 1048576).toNat ++ dig 3 (b + 1048576).toNat ++ r)) 6 3 = (b + 1048576).toNat := by
      rw [e, ← List.append_assoc, ← List.append_assoc]; exact valAt_dig (by omega) (by simp [dig_length])
    rw [v1, v2, v3]
    congr 1 <;> omega
  · rw [askBytes_take, List.cons_append, plainAsk_take (x := 2) rfl rfl]
    have v1 : valAt (2 :: (dig 2 j.toNat ++ r)) 1 2 = j.toNat := by
      rw [show (2 : UInt8) :: (dig 2 j.toNat ++ r) = [2] ++ (dig 2 j.toNat ++ r) from rfl]; exact valAt_dig (by omega) rfl
    rw [v1]; congr 1; omega
  · rw [askBytes_move, List.cons_append, plainAsk_move (x := 4) rfl rfl]
    have e : (4 : UInt8) :: (dig 4 (n + 1073741824).toNat ++ dig 2 d.toNat ++ r) = [4] ++ (dig 4 (n + 1073741824).toNat ++ (dig 2 d.toNat ++ r)) := by simp
    have v1 : valAt ((4 : UInt8) :: (dig 4 (n + 1073741824).toNat ++ dig 2 d.toNat ++ r)) 1 4 = (n + 1073741824).toNat := by rw [e]; exact valAt_dig (by omega) rfl
    have v2 : valAt ((4 : UInt8) :: (dig 4 (n + 1073741824).toNat ++ dig 2 d.toNat ++ r)) 5 2 = d.toNat := by
      rw [e, ← List.append_assoc]; exact valAt_dig (by omega) (by simp [dig_length])
    rw [v1, v2]; congr 1 <;> omega
  · rw [askBytes_bare (by omega)]
    have hb : ((UInt8.ofNat k.toNat).toNat : Int) = k := byte_kind (by omega)
    rw [List.cons_append, plainAsk_bare (x := UInt8.ofNat k.toNat) rfl (by rw [hb]; omega), hb]
theorem bytes_pos (x : Ask) : 1 ≤ x.bytes.length ∧ x.bytes.length ≤ 9 := by rw [bytes_length]; exact askLen_pos _
theorem first_bytes {x : Ask} (h : x.chk = 0) (r : List UInt8) : firstOk (x.bytes ++ r) = true ∧ firstAsk (x.bytes ++ r) = x ∧ firstLen (x.bytes ++ r) = x.bytes.length := by
  have hp := plainAsk_bytes h r
  have h1 := bytes_pos x
  have hb := bytes_length x
  have ok : firstOk (x.bytes ++ r) = true := firstOk_yes (by rw [List.length_append]; omega) (by rw [hp]; exact h) (by rw [hp, List.length_append]; omega)
  exact ⟨ok, by rw [firstAsk_yes ok, hp], by rw [firstLen_yes ok, hp, hb]⟩
/-- no first part of the bytes of an ask can be read -/
theorem first_part {x : Ask} : firstLen (x.bytes.take (x.bytes.length - 1)) = 0 := by
  apply firstLen_no
  have h1 := bytes_pos x
  have hb := bytes_length x
  by_cases h2 : x.bytes.length = 1
  · rw [h2]; exact firstOk_no (.inl (by simp))
  · obtain ⟨y, hy⟩ : ∃ y, x.bytes[0]? = some y := ⟨_, List.getElem?_eq_getElem (by omega)⟩
    have hy' : (x.bytes.take (x.bytes.length - 1))[0]? = some y := by rw [List.getElem?_take, if_pos (by omega), hy]
    have hyk : y = UInt8.ofNat x.k.toNat := by
      unfold Ask.bytes askBytes at hy; simpa using hy.symm
    apply firstOk_short hy'
    have hk : x.k = 1 ∨ x.k = 3 ∨ x.k = 2 ∨ x.k = 4 := by
      rw [hb] at h2; unfold askLen at h2
      split at h2
      · omega
      · split at h2
        · omega
        · split at h2
          · omega
          · omega
    have e : ((y.toNat : Nat) : Int) = x.k := by rw [hyk]; exact byte_kind (by omega)
    rw [e, List.length_take]; omega
/-- bytes that were read are the ask's -/
theorem bytes_first {l : List UInt8} (h : firstOk l = true) : (plainAsk l).bytes = l.take (askLen (plainAsk l).k) := by
  obtain ⟨hlen, hc⟩ := firstOk_len h
  obtain ⟨y, r, rfl⟩ : ∃ y r, l = y :: r := by
    cases l with
    | nil => simp [firstOk] at h
    | cons y r => exact ⟨y, r, rfl⟩
  have hy : (y :: r)[0]? = some y := rfl
  have hk := chk_kind hc
  rw [plainAsk_k hy] at hk hlen ⊢
  have hof : UInt8.ofNat ((y.toNat : Int)).toNat = y := by simp
  have take_drop : ∀ a n : Nat, ((y :: r).drop (a + 1)).take n = (r.drop a).take n := fun a n => by rw [List.drop_succ_cons]
  have three : ∀ a b c : Nat, (r.drop 0).take a ++ (r.drop a).take b ++ (r.drop (a + b)).take c = r.take (a + b + c) := fun a b c => by
    rw [List.drop_zero, ← List.take_add, ← List.take_add]
  have two : ∀ a b : Nat, (r.drop 0).take a ++ (r.drop a).take b = r.take (a + b) := fun a b => by rw [List.drop_zero, ← List.take_add]
  rcases (by omega : ((y.toNat : Int) = 1 ∨ (y.toNat : Int) = 3) ∨ (y.toNat : Int) = 2 ∨ (y.toNat : Int) = 4 ∨ ((y.toNat : Int) < 1 ∨ 4 < (y.toNat : Int))) with hk' | hk' | hk' | hk'
  · rw [askLen_put hk'] at hlen ⊢
    unfold Ask.bytes
    rw [plainAsk_put hy hk']
    simp only
    rw [askBytes_put hk', hof]
    have e1 : ((valAt (y :: r) 3 3 : Int) - 1048576 + 1048576).toNat = valAt (y :: r) 3 3 := by omega
    have e2 : ((valAt (y :: r) 6 3 : Int) - 1048576 + 1048576).toNat = valAt (y :: r) 6 3 := by omega
    have e3 : ((valAt (y :: r) 1 2 : Int)).toNat = valAt (y :: r) 1 2 := by omega
    simp only [List.length_cons] at hlen
    rw [e1, e2, e3, dig_valAt (by simp only [List.length_cons]; omega), dig_valAt (by simp only [List.length_cons]; omega), dig_valAt (by simp only [List.length_cons]; omega), List.take_succ_cons]
    congr 1
    rw [take_drop, take_drop, take_drop]
    exact three 2 3 3
  · rw [hk', show askLen 2 = 3 from rfl] at hlen ⊢
    unfold Ask.bytes
    rw [plainAsk_take hy hk']
    simp only
    rw [askBytes_take]
    have e3 : ((valAt (y :: r) 1 2 : Int)).toNat = valAt (y :: r) 1 2 := by omega
    simp only [List.length_cons] at hlen
    rw [e3, dig_valAt (by simp only [List.length_cons]; omega), List.take_succ_cons, take_drop, List.drop_zero]
    congr 1
    apply UInt8.toNat_inj.1
    have : (2 : UInt8).toNat = 2 := rfl
    omega
  · rw [hk', show askLen 4 = 7 from rfl] at hlen ⊢
    unfold Ask.bytes
    rw [plainAsk_move hy hk']
    simp only
    rw [askBytes_move]
    have e1 : ((valAt (y :: r) 1 4 : Int) - 1073741824 + 1073741824).toNat = valAt (y :: r) 1 4 := by omega
    have e3 : ((valAt (y :: r) 5 2 : Int)).toNat = valAt (y :: r) 5 2 := by omega
    simp only [List.length_cons] at hlen
    rw [e1, e3, dig_valAt (by simp only [List.length_cons]; omega), dig_valAt (by simp only [List.length_cons]; omega), List.take_succ_cons, take_drop, take_drop]
    congr 1
    · apply UInt8.toNat_inj.1
      have : (4 : UInt8).toNat = 4 := rfl
      omega
    · exact two 4 2
  · rw [askLen_bare hk'] at hlen ⊢
    unfold Ask.bytes
    rw [plainAsk_bare hy hk']
    simp only
    rw [askBytes_bare hk', hof]
    rfl
end Go.Pel
