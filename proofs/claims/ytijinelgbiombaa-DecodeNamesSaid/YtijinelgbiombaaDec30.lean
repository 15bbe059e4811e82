/- slices.Grow on the nil slice; slices.Concat of two slices. -/
import Derived.Test.YtijinelgbiombaaDec22
import Derived.Test.YtijinelgbiombaaSpec36c
import Derived.Lib.AppendZerosOnto
import Derived.Lib.AppendZeros
set_option linter.unusedSimpArgs false
set_option linter.unusedVariables false
namespace Go.Proofs.Ytijinelgbiombaa
open Go.RowKit Go.Pel
theorem grow_run (n : Nat) (w : World) (h0 : 0 < n) (hn : n ≤ 4000000) (ty : TypeId) : ∃ (G : Nat) (CS : Array Value), n ≤ G ∧ G ≤ maxLen ∧ CS.size = G ∧
    (Builtin.append_ #[28, 3] ty #[.slice none 0 0, .int .i64 n]).run Try.prog w = .ok (.slice (some ⟨w.heap.size, 0, none⟩) n G) (w.drew.alloc (.cells CS 5)) := by
  obtain ⟨i, hi, hz0, hz1, hz2⟩ := info_parts slt_bytes.info
  have hold : (Builtin.firstCells i.size 0 (.slice none 0 0)).run Try.prog w.drew = .ok #[] w.drew := run_firstCells_none w.drew i.size 0 0 0
  have h := Lib.run_append_grow_zeros (P := Try.prog) w 28 3 ty 5 i (.int .u8 0) .i64 .i64 slt_bytes.und (by kernel_rfl) hi hz0 none 0 0 [] hold n h0 (by omega) (by omega) (by omega) (by rw [hz2]; omega)
    (growslice_fits (by omega) (by rw [hz2]; omega))
  have hGn : 0 + n ≤ grownCap w (0 + n) 0 5 := grownCap_ge w _ _ _
  have hG2 := grownCap_le_maxLen w (0 + n) 0 5 (by unfold maxLen; omega)
  rw [Nat.zero_add] at h hGn hG2
  refine ⟨_, _, hGn, hG2, ?_, h⟩
  simp [size_zeroCells, Value.cells]
  omega
set_option maxRecDepth 10000 in
set_option maxHeartbeats 1000000 in
theorem grow_any (n : Nat) (w : World) (h0 : 0 < n) (hn : n ≤ 4000000) :
    Calls Try.prog 49 #[.slice none 0 0, .int .i64 n] w fun e w' => ∃ A c, e = .returned (.slice A 0 c) ∧ ∃ x, w' = ext w x ∧ Own (ext w x) w.heap.size 5 1 A 0 c (vb []) := by
  have d1 : ¬ (n : Int) < 0 := by omega
  have d2 : 0 < (n : Int) := by omega
  have hr := Lib.hid (grow_run n w h0 hn)
  go_enter Try.func49, Try.ntmps49
  go_wp2_with (at_builtin; obtain ⟨G, CS, g1, g2, g3, hrun⟩ := hr.out _; refine Lib.wpList_append_run _ rfl _ _ _ _ rfl _ _ rfl rfl _ _ hrun ?_)
  refine bodyPost_ret (v := .slice (some ⟨w.heap.size, 0, none⟩) 0 G) (by simp [results, Try.results49, go_sem]) rfl ?_
  obtain ⟨x, hx⟩ := ext_of (((Bel.refl w).drew).alloc (.cells CS 5))
  refine ⟨_, _, rfl, x, hx, ?_⟩
  rw [← hx]
  have hh : (w.drew.alloc (.cells CS 5)).heap[w.heap.size]? = some (.cells CS 5) := by unfold World.alloc World.drew; exact Array.getElem?_push_size
  exact ⟨rfl, .inr ⟨_, _, CS, rfl, Nat.le_refl _, hh, Nat.zero_le _, g2, by omega, by simp [vb]⟩⟩
set_option maxRecDepth 10000 in
set_option maxHeartbeats 2000000 in
theorem concat_any (g : Nat) (A B : Option Addr) (c d : Nat) (l m : List UInt8) (w : World) (hg : g < w.heap.size) (h0 : w.cell? ⟨g, 0, none⟩ = some (.slice A l.length c)) (h1 : w.cell? ⟨g, 1, none⟩ = some (.slice B m.length d))
    (hs : Sl w 1 A l.length c (vb l)) (ht : Sl w 1 B m.length d (vb m)) (hn : A = none → c = 0) (hn2 : B = none → d = 0) (hl : l.length ≤ 1000000) (hm : m.length ≤ 1000000) (hp : 0 < m.length) :
    Calls Try.prog 38 #[.slice (some ⟨g, 0, none⟩) 2 2] w fun e w' => ∃ A c, e = .returned (.slice A (l ++ m).length c) ∧ ∃ x, w' = ext w x ∧ Own (ext w x) w.heap.size 5 1 A (l ++ m).length c (vb (l ++ m)) := by
  have hg' := Nat.le_of_lt hg
  have e1 : ¬ (l.length : Int) < 0 := by omega
  have e2 : ¬ (l.length : Int) + (m.length : Int) < 0 := by omega
  go_enter Try.func38, Try.ntmps38
  go_wp2
  refine wp_loop_rounds 3 ?_
  rw [rounds_succ]
  go_wp2
  rw [rounds_succ]
  go_wp2
  rw [rounds_succ]
  have hq := Lib.hid (grow_any (l.length + m.length) w (by omega) (by omega))
  go_wp2_with fail
  refine (hq.out).mono ?_
  rintro e _ ⟨A5, c5, rfl, x5, rfl, own5⟩
  go_wp2
  refine wp_loop_rounds 3 ?_
  rw [rounds_succ]
  go_wp2_with ((at_builtin; (try refine wpList_unguard rfl (by first | rfl | simp [yielded]) ?_); refine append_any slt_bytes (by (try simp only [ext_ext]); repeat (first | exact Bel.refl _ | assumption | refine bel_and ?_ _ | refine bel_drews ?_ _ | refine Bel.ext ?_ _ | refine Bel.alloc ?_ _ | refine Bel.drewN ?_ _)) own5 (by (try simp only [ext_ext]); repeat (first | exact Bel.refl _ | assumption | refine bel_and ?_ _ | refine bel_drews ?_ _ | refine Bel.ext ?_ _ | refine Bel.alloc ?_ _ | refine Bel.drewN ?_ _)) (hs) (by (try simp only [ext_ext]); repeat (first | exact Bel.refl _ | assumption | refine bel_and ?_ _ | refine bel_drews ?_ _ | refine Bel.ext ?_ _ | refine Bel.alloc ?_ _ | refine Bel.drewN ?_ _)) (vb_one _) (hn) (by omega) rfl _ _ rfl rfl rfl ?_; rintro A6 c6 y6 hown6); rw [Nat.zero_add] at hown6)
  rw [rounds_succ]
  go_wp2_with (at_builtin; (try refine wpList_unguard rfl (by first | rfl | simp [yielded]) ?_); refine append_any slt_bytes (by (try simp only [ext_ext]); repeat (first | exact Bel.refl _ | assumption | refine bel_and ?_ _ | refine bel_drews ?_ _ | refine Bel.ext ?_ _ | refine Bel.alloc ?_ _ | refine Bel.drewN ?_ _)) hown6 (by (try simp only [ext_ext]); repeat (first | exact Bel.refl _ | assumption | refine bel_and ?_ _ | refine bel_drews ?_ _ | refine Bel.ext ?_ _ | refine Bel.alloc ?_ _ | refine Bel.drewN ?_ _)) (ht) (by (try simp only [ext_ext]); repeat (first | exact Bel.refl _ | assumption | refine bel_and ?_ _ | refine bel_drews ?_ _ | refine Bel.ext ?_ _ | refine Bel.alloc ?_ _ | refine Bel.drewN ?_ _)) (vb_one _) (hn2) (by omega) rfl _ _ rfl rfl rfl ?_; rintro A7 c7 y7 hown7)
  rw [rounds_succ]
  go_wp2
  have he : (l ++ m).length = l.length + m.length := List.length_append
  refine bodyPost_ret (v := .slice A7 (l.length + m.length) c7) (by simp [results, Try.results38, go_sem]) rfl ?_
  rw [he, vb_append]
  exact ⟨_, _, rfl, own_ret (by (try simp only [ext_ext]); repeat (first | exact Bel.refl _ | assumption | refine bel_and ?_ _ | refine bel_drews ?_ _ | refine Bel.ext ?_ _ | refine Bel.alloc ?_ _ | refine Bel.drewN ?_ _)) hown7 (by (try simp only [ext_ext]); repeat (first | exact Bel.refl _ | assumption | refine bel_and ?_ _ | refine bel_drews ?_ _ | refine Bel.ext ?_ _ | refine Bel.alloc ?_ _ | refine Bel.drewN ?_ _)) (by simp [go_sem])⟩
end Go.Proofs.Ytijinelgbiombaa
