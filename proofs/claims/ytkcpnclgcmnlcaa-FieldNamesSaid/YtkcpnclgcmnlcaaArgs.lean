/- What the arguments of a law are: opened. -/
import Derived.Test.YtkcpnclgcmnlcaaMem
import Derived.Test.YtkcpnclgcmnlcaaRows
import Derived.ProofKit
import Derived.OpenShut
import Derived.ShutString
import Derived.ChangeOld
set_option linter.unusedSimpArgs false
set_option linter.unusedVariables false
namespace Go
open Go.ChangeShapes Go.WideShapes Go.ChangeAt Go.RowKit
section
variable {H : Type} {enc : TypeId × Value → H} {P : Program} {w : World} {base : Nat} {spare : Nat → Bool} {held : Bool}
/-- a field of a struct -/
theorem field_at {t : TypeId} {fs : Array Field} {fuel : Nat} {cs : List Value} {x : DataW H × List MemPlace} (hs : P.underlying t = some (.struct fs)) (h : DataW.trod enc P w base spare held fuel t cs = some x)
    {i : Nat} {f : Field} (hf : fs[i]? = some f) {off n : Nat} {ft : TypeId} (ho : f.offset = off) (ht : f.type = ft) (hn : P.cellsOf ft = n) : ∃ m y, DataW.trod enc P w base spare held m ft ((cs.drop off).take n) = some y := by
  obtain ⟨xs, m, _, _, _, hlen, hg⟩ := DataW.trod_struct hs h
  have h1 := hg i f hf
  subst ho ht hn
  have hi : i < xs.length := by rw [hlen]; exact (Array.getElem?_eq_some_iff.1 hf).1
  exact ⟨m, xs[i], by rw [h1, List.getElem?_eq_getElem hi]⟩
theorem int_cell {t : TypeId} {k : IntKind} {fuel : Nat} {cs : List Value} {x : DataW H × List MemPlace} (ht : P.underlying t = some (.int k)) (h : DataW.trod enc P w base spare held fuel t cs = some x) : ∃ n, cs = [.int k n] ∧ (Lit.int k n).wf = true := by
  obtain ⟨n, h1, _, h2⟩ := DataW.trod_int ht h; exact ⟨n, h1, h2⟩
theorem wf_i64 {n : Int} (h : (Lit.int .i64 n).wf = true) : -9223372036854775808 ≤ n ∧ n ≤ 9223372036854775807 := bounds_i64 h
theorem wf_u8 {n : Int} (h : (Lit.int .u8 n).wf = true) : 0 ≤ n ∧ n ≤ 255 := bounds_u8 h
theorem bytes_of (zs : List Int) (h : ∀ n ∈ zs, (Lit.int .u8 n).wf = true) : ∃ l : List UInt8, zs = l.map fun x => (x.toNat : Int) := by
  induction zs with
  | nil => exact ⟨[], rfl⟩
  | cons z zs ih =>
    obtain ⟨l, rfl⟩ := ih (fun n hn => h n (List.mem_cons_of_mem _ hn))
    have hz := wf_u8 (h z (List.mem_cons_self ..))
    refine ⟨UInt8.ofNat z.toNat :: l, ?_⟩
    rw [List.map_cons]
    congr 1
    simp; omega
/-- bytes that came in -/
theorem arg_bytes {t e : TypeId} {fuel : Nat} {A : Option Addr} {n c : Nat} {x : DataW H × List MemPlace} (ht : P.underlying t = some (.slice e)) (he : P.underlying e = some (.int .u8)) (hc : P.cellsOf e = 1)
    (h : DataW.trod enc P w base (fun _ => true) held fuel t [Value.slice A n c] = some x) : ∃ l : List UInt8, l.length = n ∧ Sl w 1 A l.length c (vb l) := by
  rcases open_ints ht he hc h with ⟨hcs, _⟩ | ⟨a, len, cap, zs, hcs, _, hl, hm, hz, _, hcell, hwz⟩
  · simp only [List.cons.injEq, and_true] at hcs
    injection hcs with h1 h2 h3
    subst h1 h2 h3
    exact ⟨[], rfl, Sl.nil_ _ _ _ _⟩
  · simp only [List.cons.injEq, and_true] at hcs
    injection hcs with h1 h2 h3
    subst h1 h2 h3
    have hz' : zs.length = c := by simpa using hz
    obtain ⟨l, hl'⟩ := bytes_of (zs.take n) (fun m hm => hwz m (List.mem_of_mem_take hm))
    have hlen : l.length = n := by
      have := congrArg List.length hl'
      rw [List.length_take, List.length_map] at this; omega
    refine ⟨l, hlen, by omega, by rw [vb_length]; omega, fun hn => ?_⟩
    obtain ⟨b, o, spot⟩ := a
    have h0 := hcell 0 (by omega)
    have hspot : spot = none := by simpa [Addr.add] using World.cell?_spot h0
    subst hspot
    refine ⟨b, o, rfl, ?_, fun j u hu => ?_⟩
    · have hb := World.block_lt_of_cell? w _ h0
      simpa [Addr.add] using hb
    · rw [vb_get] at hu
      have hj : j < l.length := by
        rcases Nat.lt_or_ge j l.length with h | h
        · exact h
        · rw [List.getElem?_eq_none h] at hu; cases hu
      have h1 := hcell j (by omega)
      have e1 : (⟨b, o, none⟩ : Addr).add j = ⟨b, o + j, none⟩ := by
        unfold Addr.add; split
        · rename_i h0; rw [h0]; rfl
        · rfl
      rw [e1] at h1
      rw [h1, ← hu]
      have e2 : (zs.take n)[j]? = some (zs.getD j 0) := by
        rw [List.getElem?_take, if_pos (by omega), List.getD_eq_getElem?_getD, List.getElem?_eq_getElem (by omega)]; rfl
      rw [hl'] at e2
      rw [List.getElem?_map] at e2
      cases hx : l[j]? with
      | none => rw [hx] at e2; cases e2
      | some y => rw [hx] at e2; simp only [Option.map_some, Option.some.injEq] at e2 ⊢; rw [e2]
end
end Go
namespace Go.Proofs.Ytkcpnclgcmnlcaa
open Go.ChangeShapes Go.WideShapes Go.ChangeAt Go.RowKit
theorem ownKnob_ : ownKnob Try.prog.godebug = none := by kernel_rfl
theorem laidOut_ : laidOutB Try.prog = true := by kernel_rfl
end Go.Proofs.Ytkcpnclgcmnlcaa
