/- Walks of courses and of the sorts; the order as plain mathematics. -/
import Derived.IntWalk
import Derived.Shelf.SlSortCmp.NoneTotal
import Derived.Test.YtpojhcjdcbegiaaGreatProg
import Derived.Sort.Statements
import Derived.Shelf.SlSortCmp.Insertion
import Derived.Deep.RegionHeld3
import Derived.Deep.RegionLaw
import Derived.Deep.MidRow
import Derived.Deep.DeepCutAuto
import Derived.Deep.LoopGhost
import Derived.Laws.MakeOwn
import Derived.RangeFuncRecord
import Derived.RangeFuncSeq
import Derived.RangeFuncBound
import Derived.Shelf.Abstract
import Derived.Shelf.RegionOpen
import Derived.WalkKit
import Derived.OwnWalkIn
import Derived.TacticsInMore
import Derived.LoopNIn
import Derived.LoopIn
import Derived.Shelf.Spec.BitsCarry
import Derived.Test.YtpojhcjdcbegiaaGreatGb
set_option linter.unusedSimpArgs false
set_option linter.unusedVariables false
namespace Go.Proofs.YtpojhcjdcbegiaaGreat
open Go.RowKit Go.Pel Go.IntWalk
set_option maxRecDepth 10000 in
set_option maxHeartbeats 1000000 in
theorem clone_any (A : Option Addr) (c : Nat) (l : List Pt) (w : World) (hs : Sl w 3 A l.length c (vp l)) (hn : A = none → c = 0) (hl : l.length ≤ 1000000) :
    Calls Tryz.prog 49 #[.slice A l.length c] w fun e w' => ∃ A' c', e = .returned (.slice A' l.length c') ∧ ∃ x, w' = ext w x ∧ Own (ext w x) w.heap.size 26 3 A' l.length c' (vp l) := by
  have hnil := fun W n c n' c' => Lib.run_eql_slice_nil (P := Tryz.prog) W 22 26 A n c n' c' Tryz.underlying22
  cases A with
  | none =>
    obtain rfl := hn rfl
    obtain rfl : l = [] := by
      cases l with
      | nil => rfl
      | cons p l => obtain ⟨b, o, h, _⟩ := hs.at_ (by simp); cases h
    go_enter Tryz.func49, Tryz.ntmps49
    go_wp2
    go_ret
    exact ⟨none, 0, rfl, ext_nil _ _ _ _⟩
  | some a =>
    go_enter Tryz.func49, Tryz.ntmps49
    go_wp2_with ((at_builtin; (try refine wpList_unguard rfl (by first | rfl | simp [yielded]) ?_); refine append_new slt_pts (by (try simp only [ext_ext]); repeat (first | exact Bel.refl _ | assumption | refine bel_and ?_ _ | refine bel_drews ?_ _ | refine Bel.ext ?_ _ | refine Bel.alloc ?_ _ | refine Bel.drewN ?_ _)) (hs) (by (try simp only [ext_ext]); repeat (first | exact Bel.refl _ | assumption | refine bel_and ?_ _ | refine bel_drews ?_ _ | refine Bel.ext ?_ _ | refine Bel.alloc ?_ _ | refine Bel.drewN ?_ _)) (vp_one _) (hn) (by omega) rfl _ _ rfl rfl rfl (by simp [go_sem]) ?_; rintro A1 c1 y1 hown1))
    go_ret
    exact ⟨_, _, rfl, own_ret (by (try simp only [ext_ext]); repeat (first | exact Bel.refl _ | assumption | refine bel_and ?_ _ | refine bel_drews ?_ _ | refine Bel.ext ?_ _ | refine Bel.alloc ?_ _ | refine Bel.drewN ?_ _)) (own_swap (by simp [go_sem]) hown1 (by simp [go_sem])) (Bel.refl _) (by simp [go_sem])⟩
theorem ins_cells (cur A p M : List Value) (i n : Nat) (hA : cur.take (i * 3) = A) (hc : i * 3 ≤ cur.length) (hp : p.length = 3) (hM : M.length = (n - i) * 3) (hi : i ≤ n) :
    ((cur.take (i * 3) ++ p ++ cur.drop (i * 3 + p.length)).take ((i + 1) * 3) ++ (M ++ (cur.take (i * 3) ++ p ++ cur.drop (i * 3 + p.length)).drop ((i + 1) * 3 + M.length))).take ((n + 1) * 3) = A ++ (p ++ M) := by
  have hAl : A.length = i * 3 := by rw [← hA, List.length_take]; omega
  have e1 : (i + 1) * 3 = (A ++ p).length := by rw [List.length_append, hAl, hp]; omega
  rw [hA, e1, List.take_left]
  have e2 : (n + 1) * 3 = (A ++ p ++ M).length := by rw [List.length_append, ← e1, hM]; omega
  rw [e2, ← List.append_assoc, List.take_left, List.append_assoc]
theorem ins_cells2 (cur A p M : List Value) (i n : Nat) (hi : i ≤ n) (hA : (cur.take (n * 3)).take (i * 3) = A) (hc : (n + 1) * 3 ≤ cur.length) (hp : p.length = 3) (hM : M.length = (n - i) * 3) :
    ((cur.take ((i + 1) * 3) ++ (M ++ cur.drop ((i + 1) * 3 + M.length))).take (i * 3) ++ (p ++ (cur.take ((i + 1) * 3) ++ (M ++ cur.drop ((i + 1) * 3 + M.length))).drop (i * 3 + p.length))).take ((n + 1) * 3) = A ++ (p ++ M) := by
  rw [List.take_take, Nat.min_eq_left (by omega)] at hA
  have hAl : A.length = i * 3 := by rw [← hA, List.length_take]; omega
  have hB : (cur.take ((i + 1) * 3)).length = (i + 1) * 3 := by rw [List.length_take]; omega
  have e0 : (cur.take ((i + 1) * 3) ++ (M ++ cur.drop ((i + 1) * 3 + M.length))).take (i * 3) = A := by
    rw [List.take_append_of_le_length (by omega), List.take_take, Nat.min_eq_left (by omega), hA]
  have e1 : (cur.take ((i + 1) * 3) ++ (M ++ cur.drop ((i + 1) * 3 + M.length))).drop (i * 3 + p.length) = M ++ cur.drop ((i + 1) * 3 + M.length) := by
    rw [show i * 3 + p.length = (cur.take ((i + 1) * 3)).length by omega, List.drop_left]
  rw [e0, e1]
  have e2 : (n + 1) * 3 = (A ++ (p ++ M)).length := by simp only [List.length_append, hAl, hp, hM]; omega
  rw [e2, show A ++ (p ++ (M ++ cur.drop ((i + 1) * 3 + M.length))) = (A ++ (p ++ M)) ++ cur.drop ((i + 1) * 3 + M.length) by simp only [List.append_assoc], List.take_left]
end Go.Proofs.YtpojhcjdcbegiaaGreat

namespace Go.Proofs.YtpojhcjdcbegiaaGreat
open Go.RowKit Go.Pel Go.IntWalk
theorem del_cells (cur A M C1 C2 : List Value) (i m n : Nat) (hi : i < n) (hA : (cur.take (n * 3)).take (i * 3) = A) (hc : n * 3 ≤ cur.length) (hM : M.length = m * 3)
    (h1 : C1 = cur.take (i * 3) ++ (M ++ cur.drop (i * 3 + M.length))) (h2 : C2.take ((i + m) * 3) = C1.take ((i + m) * 3)) : C2.take ((i + m) * 3) = A ++ M := by
  rw [List.take_take, Nat.min_eq_left (by omega)] at hA
  have hAl : A.length = i * 3 := by rw [← hA, List.length_take]; omega
  rw [h2, h1, hA, ← List.append_assoc, show (i + m) * 3 = (A ++ M).length by rw [List.length_append, hAl, hM]; omega, List.take_left]
theorem zpt_run (w : World) : (zeroValue 26).run Tryz.prog w = .ok (.agg #[.int .i64 0, .int .i64 0, .int .i64 0]) w := by kernel_rfl
end Go.Proofs.YtpojhcjdcbegiaaGreat

namespace Go.Proofs.YtpojhcjdcbegiaaGreat
open Go.RowKit Go.Pel Go.IntWalk
theorem place_zero {l : List Pt} {id : Int} (h : (fieldPlace l id).2 = 0) : fieldChk l = 0 ∧ hasB l id = true ∧ (fieldPlace l id).1 = lowB l id := by
  unfold fieldPlace at h ⊢
  by_cases h0 : fieldChk l = 0
  · cases hb : hasB l id
    · simp [h0, hb] at h
    · simp [h0]
  · rw [if_pos h0] at h; exact absurd h h0
theorem find_eq (l : List Pt) (id : Int) : fieldFind l id = if (fieldPlace l id).2 = 0 then (l.getD (lowB l id) Pt.zero, 0) else (Pt.zero, (fieldPlace l id).2) := by
  unfold fieldFind fieldPlace
  by_cases h0 : fieldChk l = 0
  · cases hb : hasB l id <;> simp [h0]
  · simp [h0]
theorem take_eq (l : List Pt) (id : Int) : fieldTake l id = if (fieldPlace l id).2 = 0 then (l.take (lowB l id) ++ l.drop (lowB l id + 1), 0) else ([], (fieldPlace l id).2) := by
  unfold fieldTake fieldPlace
  by_cases h0 : fieldChk l = 0
  · cases hb : hasB l id <;> simp [h0]
  · simp [h0]
set_option maxRecDepth 10000 in
set_option maxHeartbeats 2000000 in
theorem fieldFind_any (A : Option Addr) (c : Nat) (l : List Pt) (id : Int) (w : World) (hs : Sl w 3 A l.length c (vp l)) :
    Calls Tryz.prog 23 #[.agg #[.slice A l.length c], .int .i64 id] w fun e w' => e = .returned (.tuple #[.agg #[.int .i64 (fieldFind l id).1.id, .int .i64 (fieldFind l id).1.a, .int .i64 (fieldFind l id).1.b], .int .i64 (fieldFind l id).2]) ∧ ∃ x, w' = ext w x := by
  have q := Lib.hid (fun W hb => place_any A c l id W (hs.bel (w' := W) hb))
  by_cases h : (fieldPlace l id).2 = 0
  · obtain ⟨h1, h2, h3⟩ := place_zero h
    obtain ⟨h64, hchk, hinc⟩ := fieldChk_zero h1
    obtain ⟨h4, p, hp, h5⟩ := atI_low hinc h2
    have HF : Hid (fieldFind l id = (p, 0)) := Lib.hid (by rw [find_eq, if_pos h, List.getD_eq_getElem?_getD, hp]; rfl)
    have hlt : lowB l id < l.length := (List.getElem?_eq_some_iff.1 hp).1
    rw [h3, h] at q
    obtain ⟨k, hk⟩ : ∃ k, lowB l id = k := ⟨_, rfl⟩
    rw [hk] at q hp hlt
    obtain ⟨b, o, rfl, hb⟩ := hs.at_ (by omega)
    obtain ⟨r0, r1, r2⟩ := pt_at hs hp
    have hlt' : (k : Int) < (l.length : Int) := by omega
    clear h h1 h2 h3 hk h4 h5 hchk hinc hp
    go_enter Tryz.func23, Tryz.ntmps23
    go_wp2_with ((go_at_call 34; refine (q.out _ (by (try simp only [ext_ext]); repeat (first | exact Bel.refl _ | assumption | refine bel_and ?_ _ | refine bel_drews ?_ _ | refine Bel.ext ?_ _ | refine Bel.alloc ?_ _ | refine Bel.drewN ?_ _))).mono ?_; rintro e _ ⟨rfl, nx, rfl⟩))
    exact bodyPost_ret (v := .tuple #[.agg #[.int .i64 p.id, .int .i64 p.a, .int .i64 p.b], .int .i64 0]) (by simp [results, Tryz.results23, go_sem]) rfl ⟨by rw [HF.out], ext_of (by (try simp only [ext_ext]); repeat (first | exact Bel.refl _ | assumption | refine bel_and ?_ _ | refine bel_drews ?_ _ | refine Bel.ext ?_ _ | refine Bel.alloc ?_ _ | refine Bel.drewN ?_ _))⟩
  · have HF : Hid (fieldFind l id = (Pt.zero, (fieldPlace l id).2)) := Lib.hid (by rw [find_eq, if_neg h])
    have hz : ((fieldPlace l id).2 == 0) = false := by simpa using h
    have hz' : ((fieldPlace l id).2 != 0) = true := by simpa using h
    clear h
    go_enter Tryz.func23, Tryz.ntmps23
    go_wp2_with ((go_at_call 34; refine (q.out _ (by (try simp only [ext_ext]); repeat (first | exact Bel.refl _ | assumption | refine bel_and ?_ _ | refine bel_drews ?_ _ | refine Bel.ext ?_ _ | refine Bel.alloc ?_ _ | refine Bel.drewN ?_ _))).mono ?_; rintro e _ ⟨rfl, nx, rfl⟩))
    exact bodyPost_ret (v := .tuple #[.agg #[.int .i64 0, .int .i64 0, .int .i64 0], .int .i64 (fieldPlace l id).2]) (by simp [results, Tryz.results23, go_sem]) rfl ⟨by (rw [HF.out]; rfl), ext_of (by (try simp only [ext_ext]); repeat (first | exact Bel.refl _ | assumption | refine bel_and ?_ _ | refine bel_drews ?_ _ | refine Bel.ext ?_ _ | refine Bel.alloc ?_ _ | refine Bel.drewN ?_ _))⟩
end Go.Proofs.YtpojhcjdcbegiaaGreat

namespace Go.Proofs
open Go.Shelf
def Tryz.laysSort_ren : Go.Shelf.Ren := ⟨fun | 6 => 50 | 15 => 64 | 14 => 63 | 28 => 84 | 29 => 54 | 20 => 76 | 21 => 77 | 22 => 78 | 23 => 79 | 24 => 80 | 25 => 81 | 26 => 82 | 27 => 83 | 46 => 96 | 47 => 97 | 48 => 98 | 49 => 99 | 50 => 100 | 57 => 105 | n => n, fun | 22 => 22 | 24 => 26 | 25 => 108 | 3 => 3 | 39 => 91 | 0 => 0 | 53 => 142 | 55 => 67 | 4 => 4 | 46 => 136 | 45 => 135 | 50 => 109 | 5 => 5 | 9 => 9 | 66 => 151 | 70 => 155 | 76 => 159 | 77 => 160 | n => n, fun | n => n⟩
theorem Tryz.laysSort : Go.Proofs.SlLaysF0.n6 Tryz.prog Tryz.laysSort_ren := {
  mixed := by kernel_rfl
  f6 := ⟨Tryz.f50.name, by decide, Tryz.func50.trans (congrArg some (by kernel_rfl))⟩
  f14 := ⟨Tryz.f63.name, by decide, Tryz.func63.trans (congrArg some (by kernel_rfl))⟩
  f15 := Tryz.func64.trans (congrArg some (by kernel_rfl))
  f20 := ⟨Tryz.f76.name, by decide, Tryz.func76.trans (congrArg some (by kernel_rfl))⟩
  f21 := ⟨Tryz.f77.name, by decide, Tryz.func77.trans (congrArg some (by kernel_rfl))⟩
  f22 := ⟨Tryz.f78.name, by decide, Tryz.func78.trans (congrArg some (by kernel_rfl))⟩
  f23 := ⟨Tryz.f79.name, by decide, Tryz.func79.trans (congrArg some (by kernel_rfl))⟩
  f24 := ⟨Tryz.f80.name, by decide, Tryz.func80.trans (congrArg some (by kernel_rfl))⟩
  f25 := ⟨Tryz.f81.name, by decide, Tryz.func81.trans (congrArg some (by kernel_rfl))⟩
  f26 := ⟨Tryz.f82.name, by decide, Tryz.func82.trans (congrArg some (by kernel_rfl))⟩
  f27 := ⟨Tryz.f83.name, by decide, Tryz.func83.trans (congrArg some (by kernel_rfl))⟩
  f28 := Tryz.func84.trans (congrArg some (by kernel_rfl))
  f29 := Tryz.func54.trans (congrArg some (by kernel_rfl))
  f46 := ⟨Tryz.f96.name, by decide, Tryz.func96.trans (congrArg some (by kernel_rfl))⟩
  f47 := Tryz.func97.trans (congrArg some (by kernel_rfl))
  f48 := Tryz.func98.trans (congrArg some (by kernel_rfl))
  f49 := ⟨Tryz.f99.name, by decide, Tryz.func99.trans (congrArg some (by kernel_rfl))⟩
  f50 := ⟨Tryz.f100.name, by decide, Tryz.func100.trans (congrArg some (by kernel_rfl))⟩
  f57 := ⟨Tryz.f105.name, by decide, Tryz.func105.trans (congrArg some (by kernel_rfl))⟩
  t0 := Tryz.underlying0
  a0 := Tryz.isAgg0
  z0 := Tryz.sizeOf0
  v0 := Tryz.zeroValue0
  t3 := Tryz.underlying3
  a3 := Tryz.isAgg3
  z3 := Tryz.sizeOf3
  v3 := Tryz.zeroValue3
  t4 := Tryz.underlying4
  a4 := Tryz.isAgg4
  z4 := Tryz.sizeOf4
  v4 := Tryz.zeroValue4
  t5 := Tryz.underlying5
  a5 := Tryz.isAgg5
  z5 := Tryz.sizeOf5
  v5 := Tryz.zeroValue5
  t9 := Tryz.underlying9
  a9 := Tryz.isAgg9
  z9 := Tryz.sizeOf9
  v9 := Tryz.zeroValue9
  t22 := Tryz.underlying22
  a22 := Tryz.isAgg22
  z22 := Tryz.sizeOf22
  v22 := Tryz.zeroValue22
  t25 := Tryz.underlying108
  a25 := Tryz.isAgg108
  z25 := Tryz.sizeOf108
  v25 := Tryz.zeroValue108
  t39 := Tryz.underlying91
  a39 := Tryz.isAgg91
  z39 := Tryz.sizeOf91
  v39 := Tryz.zeroValue91
  t45 := Tryz.underlying135
  a45 := Tryz.isAgg135
  z45 := Tryz.sizeOf135
  v45 := Tryz.zeroValue135
  t46 := Tryz.underlying136
  a46 := Tryz.isAgg136
  z46 := Tryz.sizeOf136
  v46 := Tryz.zeroValue136
  t50 := Tryz.underlying109
  a50 := Tryz.isAgg109
  z50 := Tryz.sizeOf109
  v50 := Tryz.zeroValue109
  t53 := Tryz.underlying142
  a53 := Tryz.isAgg142
  z53 := Tryz.sizeOf142
  v53 := Tryz.zeroValue142
  t55 := Tryz.underlying67
  a55 := Tryz.isAgg67
  z55 := Tryz.sizeOf67
  v55 := Tryz.zeroValue67
  t66 := Tryz.underlying151
  a66 := Tryz.isAgg151
  z66 := Tryz.sizeOf151
  v66 := Tryz.zeroValue151
  t70 := Tryz.underlying155
  a70 := Tryz.isAgg155
  z70 := Tryz.sizeOf155
  v70 := Tryz.zeroValue155
  t76 := Tryz.underlying159
  a76 := Tryz.isAgg159
  z76 := Tryz.sizeOf159
  v76 := Tryz.zeroValue159
  t77 := Tryz.underlying160
  a77 := Tryz.isAgg160
  z77 := Tryz.sizeOf160
  v77 := Tryz.zeroValue160 }
end Go.Proofs

namespace Go.Pel
open Go.Sort Go.Proofs
def worth (p : Pt) (n d : Int) : Int := p.a * d + p.b * n
theorem farD_worth (p q : Pt) (n d : Int) : farD p q n d = worth p n d - worth q n d := by
  unfold farD worth; rw [Int.sub_mul, Int.sub_mul]; omega
theorem leads_iff (p q : Pt) (n d : Int) : leads p q n d = true ↔ worth q n d < worth p n d ∨ (worth q n d = worth p n d ∧ (q.b < p.b ∨ (q.b = p.b ∧ p.id < q.id))) := by
  unfold leads
  rw [farD_worth]
  by_cases h : worth p n d - worth q n d ≠ 0
  · rw [if_pos h]; simp; omega
  · rw [if_neg h]
    by_cases h2 : p.b ≠ q.b
    · rw [if_pos h2]; simp; omega
    · rw [if_neg h2]; simp; omega
def cfP (n d : Int) (p q : Pt) : Int := if p.id = q.id then 0 else if leads p q n d then -1 else 1
theorem ltOf_cfP (n d : Int) (p q : Pt) : ltOf (cfP n d) p q = true ↔ p.id ≠ q.id ∧ leads p q n d = true := by
  unfold ltOf cfP
  by_cases h : p.id = q.id
  · rw [if_pos h]; simp [h]
  · rw [if_neg h]
    by_cases h2 : leads p q n d = true
    · rw [if_pos h2]; simp [h, h2]
    · rw [if_neg h2]; simp [h2]
/-- the comparator at the points of a list whose ids are apart -/
def cfL (n d : Int) (l : List Pt) (x y : {p : Pt // p ∈ l}) : Int := cfP n d x.1 y.1
theorem ltOf_cfL (n d : Int) (l : List Pt) (x y : {p : Pt // p ∈ l}) : ltOf (cfL n d l) x y = true ↔ x.1.id ≠ y.1.id ∧ leads x.1 y.1 n d = true := ltOf_cfP n d x.1 y.1
def IdsApart (l : List Pt) : Prop := ∀ p ∈ l, ∀ q ∈ l, p.id = q.id → p = q
theorem nlt {n d : Int} {p q : Pt} (h : leads p q n d = false) : ¬ (worth q n d < worth p n d ∨ (worth q n d = worth p n d ∧ (q.b < p.b ∨ (q.b = p.b ∧ p.id < q.id)))) := by
  rw [← leads_iff, h]; decide
theorem swo_cfL {n d : Int} {l : List Pt} (hi : IdsApart l) : SWO (ltOf (cfL n d l)) := by
  have F : ∀ x y, ltOf (cfL n d l) x y = false ↔ (x = y ∨ (x.1.id ≠ y.1.id ∧ leads x.1 y.1 n d = false)) := by
    intro x y
    rw [← Bool.not_eq_true, ltOf_cfL]
    constructor
    · intro h
      by_cases he : x.1.id = y.1.id
      · exact .inl (Subtype.ext (hi _ x.2 _ y.2 he))
      · exact .inr ⟨he, by simpa [he] using h⟩
    · rintro (rfl | ⟨h1, h2⟩)
      · simp
      · simp [h2]
  constructor
  · intro x; exact (F x x).2 (.inl rfl)
  · intro x y z h1 h2
    rw [ltOf_cfL, leads_iff] at h1 h2 ⊢
    refine ⟨?_, by omega⟩
    intro h
    obtain rfl : x = z := Subtype.ext (hi _ x.2 _ z.2 h)
    omega
  · intro x y z h1 h2
    rw [F] at h1 h2 ⊢
    rcases h1 with rfl | ⟨h1, k1⟩
    · exact h2
    rcases h2 with rfl | ⟨h2, k2⟩
    · exact .inr ⟨h1, k1⟩
    have k1 := nlt k1
    have k2 := nlt k2
    by_cases hne : x.1.id = z.1.id
    · exact .inl (Subtype.ext (hi _ x.2 _ z.2 hne))
    refine .inr ⟨hne, ?_⟩
    rw [← Bool.not_eq_true, leads_iff]
    omega
theorem tot_cfL {n d : Int} {l : List Pt} (hi : IdsApart l) (x y : {p : Pt // p ∈ l}) (h1 : ltOf (cfL n d l) x y = false) (h2 : ltOf (cfL n d l) y x = false) : x = y := by
  rw [← Bool.not_eq_true, ltOf_cfL] at h1 h2
  by_cases he : x.1.id = y.1.id
  · exact Subtype.ext (hi _ x.2 _ y.2 he)
  · exfalso
    have h1' : leads x.1 y.1 n d = false := by simpa [he] using h1
    have h2' : leads y.1 x.1 n d = false := by simpa [Ne.symm he] using h2
    have := nlt h1'
    have := nlt h2'
    omega
/-- the list sorted by who leads -/
def sortP (n d : Int) (l : List Pt) : List Pt := ((l.attach.mergeSort fun x y => !(ltOf (cfL n d l)) y x)).map Subtype.val
theorem sortP_perm (n d : Int) (l : List Pt) : (sortP n d l).Perm l := by
  unfold sortP
  have := (List.mergeSort_perm l.attach (fun x y => !(ltOf (cfL n d l)) y x)).map Subtype.val
  simpa [List.attach_map_subtype_val] using this
theorem sortP_length (n d : Int) (l : List Pt) : (sortP n d l).length = l.length := (sortP_perm n d l).length_eq
theorem sortP_pairwise {n d : Int} {l : List Pt} (hi : IdsApart l) (hn : (l.map Pt.id).Nodup) : (sortP n d l).Pairwise fun p q => leads p q n d = true := by
  have hO := swo_cfL (n := n) (d := d) hi
  have h1 : (l.attach.mergeSort fun x y => !(ltOf (cfL n d l)) y x).Pairwise fun x y => (!(ltOf (cfL n d l)) y x) = true := by
    apply List.pairwise_mergeSort
    · intro a b c h1 h2
      simp only [Bool.not_eq_true', ] at h1 h2 ⊢
      exact hO.ntrans _ _ _ h2 h1
    · intro a b
      simp only [Bool.or_eq_true, Bool.not_eq_true']
      by_cases h : ltOf (cfL n d l) b a = true
      · right
        rcases hq : ltOf (cfL n d l) a b with _ | _
        · rfl
        · have := hO.trans _ _ _ h hq; rw [hO.irrefl] at this; exact absurd this (by decide)
      · left; simpa using h
  have h2 : (sortP n d l).Pairwise fun p q => p.id ≠ q.id := by
    have := ((sortP_perm n d l).map Pt.id).nodup_iff.2 hn
    exact List.pairwise_map.1 this
  have h3 : (sortP n d l).Pairwise fun p q => ¬ (q.id ≠ p.id ∧ leads q p n d = true) := by
    unfold sortP
    rw [List.pairwise_map]
    refine h1.imp ?_
    intro a b h
    rw [← ltOf_cfL]
    simpa using h
  refine (h2.and h3).imp ?_
  rintro p q ⟨h, h'⟩
  have h4 : leads q p n d = false := by simpa [Ne.symm h] using h'
  have := nlt h4
  rw [leads_iff]
  omega
end Go.Pel

namespace Go
open RowKit
section
variable {P : Program} {ops : Array Oper} {o : Oper} {a : Act} {K : Act → World → Prop} {Q : Exit → Act → World → Prop} {E : Prop}
theorem oper_append_any {t e : TypeId} {z : Value} {size bytes : Nat} (hT : SlT P t e z size bytes) {wB W0 W1 W : World} (hb : Bel wB W)
    {A : Option Addr} {n c : Nat} {xs : List Value} (hown : Own W0 wB.heap.size e size A n c xs) (hb0 : Bel W0 W)
    {A1 : Option Addr} {m c' : Nat} {news : List Value} (hsrc : Sl W1 size A1 m c' news) (hb1 : Bel W1 W) (h1 : ∀ u ∈ news, u.oneCell' = true) (hnil : A1 = none → c' = 0) (hlen : n + m ≤ 4294967296)
    (s x : Operand) (ho : o.op = .call { callee := .builtin .append, args := #[s, x], argTypes := #[t, t] })
    (hs : a.eval s = .slice A n c) (hx : a.eval x = .slice A1 m c')
    (h : ∀ A' c'' y, Own (ext wB y) wB.heap.size e size A' (n + m) c'' (xs ++ news) → K (a.put o.dst (.slice A' (n + m) c'')) (ext wB y)) : Oper.wp P o a W K Q := by
  obtain ⟨i, hi, hz0, hz1, hz2⟩ := info_parts hT.info
  have hown' := hown.bel hb0
  cases A1 with
  | none =>
    have hm : m = 0 := Nat.eq_zero_of_not_pos fun hp => by obtain ⟨b, o', hA, _⟩ := hsrc.at_ hp; cases hA
    subst hm
    obtain rfl := hnil rfl
    have hn : news = [] := List.eq_nil_of_length_eq_zero (by simpa using hsrc.len)
    subst hn
    obtain ⟨y, rfl⟩ := ext_of hb
    have hrun := run_append_owned_none (P := P) (w := ext wB y) wB.heap.size t o.type e i size hT.und hi _ n xs hown'
    unfold Oper.wp execOp
    simp only [ho, resolve, invoke, builtin, Sem.run_bind, Sem.run_pure, Result.andThen_ok, List.map_toArray, List.map_cons, List.map_nil, hs, hx, hrun]
    exact h A c y (by simpa using hown')
  | some ad =>
    have hby : (n + m) * bytes ≤ 140737488355328 := Nat.le_trans (Nat.mul_le_mul hlen hT.small) (by decide)
    have hsrc' := hsrc.bel hb1
    refine wp_append_m s x t ho wB.heap.size e i z size bytes hT.und hi hz0 hz1 hz2 hT.zs hT.pos _ n xs hs hown' ad m c' news hx hsrc'.len
      (fun j u hu => ?_) h1 (Nat.le_trans hlen (by unfold maxLen; decide)) hby hb.size fun v' w' hown2 hg hmono => ?_
    · have hl : j < news.length := (List.getElem?_eq_some_iff.1 hu).1
      have hp : 0 < m := Nat.pos_of_ne_zero fun h0 => by rw [hsrc'.len, h0, Nat.zero_mul] at hl; omega
      obtain ⟨b, o', hA, _⟩ := hsrc'.at_ hp
      injection hA with hA
      subst hA
      have hj := hsrc'.cell hu
      unfold Addr.add
      split
      · rename_i h0; rw [h0] at hj; exact hj
      · exact hj
    · have hbel : Bel wB w' := hb.grown hg (fun k hk => by
        rcases hown'.block with h0 | ⟨g, h0, hge, _⟩
        · rw [h0] at hk; cases hk
        · rw [h0] at hk; injection hk with hk; omega) hmono
      obtain ⟨y, rfl⟩ := ext_of hbel
      have hv : ∃ A' c'', v' = .slice A' (n + m) c'' := by
        rcases hown2.2 with ⟨hv, hn⟩ | ⟨g, cap, cur, hv, _⟩
        · exact ⟨none, 0, by rw [hv, hn]⟩
        · exact ⟨_, _, hv⟩
      obtain ⟨A', c'', rfl⟩ := hv
      exact h A' c'' y hown2
theorem step_append_any {t e : TypeId} {z : Value} {size bytes : Nat} (hT : SlT P t e z size bytes) {wB W0 W1 W : World} (hb : Bel wB W)
    {A : Option Addr} {n c : Nat} {xs : List Value} (hown : Own W0 wB.heap.size e size A n c xs) (hb0 : Bel W0 W)
    {A1 : Option Addr} {m c' : Nat} {news : List Value} (hsrc : Sl W1 size A1 m c' news) (hb1 : Bel W1 W) (h1 : ∀ u ∈ news, u.oneCell' = true) (hnil : A1 = none → c' = 0) (hlen : n + m ≤ 4294967296)
    (hgd : o.guard = none) (s x : Operand) (ho : o.op = .call { callee := .builtin .append, args := #[s, x], argTypes := #[t, t] })
    (hs : a.eval s = .slice A n c) (hx : a.eval x = .slice A1 m c')
    (h : ∀ A' c'' y, Own (ext wB y) wB.heap.size e size A' (n + m) c'' (xs ++ news) → K (a.put o.dst (.slice A' (n + m) c'')) (ext wB y)) :
    if Region.wanted o (yielded ops a.tmps) = true then Oper.wp P o a W K Q else E := by
  have hw : Region.wanted o (yielded ops a.tmps) = true := by simp [Region.wanted, hgd]
  rw [if_pos hw]
  exact oper_append_any hT hb hown hb0 hsrc hb1 h1 hnil hlen s x ho hs hx h
/-- append of one element, just built -/
theorem step_append1 {t e e' : TypeId} {z : Value} {size bytes : Nat} (hT : SlT P t e z size bytes) {wB W0 W : World} (hb : Bel wB W)
    {A : Option Addr} {n c : Nat} {xs : List Value} (hown : Own W0 wB.heap.size e size A n c xs) (hb0 : Bel W0 W)
    {cs : Array Value} (h1 : ∀ u ∈ cs.toList, u.oneCell' = true) (hsz : cs.size = size) (hlen : n + 1 ≤ 4294967296)
    (hgd : o.guard = none) (s x : Operand) (ho : o.op = .call { callee := .builtin .append, args := #[s, x], argTypes := #[t, t] }) {g : Nat}
    (hs : a.eval s = .slice A n c) (hx : a.eval x = .slice (some ⟨g, 0, none⟩) 1 1) (hg : g = W.heap.size)
    (h : ∀ A' c'' y, Own (ext wB y) wB.heap.size e size A' (n + 1) c'' (xs ++ cs.toList) → K (a.put o.dst (.slice A' (n + 1) c'')) (ext wB y)) :
    if Region.wanted o (yielded ops a.tmps) = true then Oper.wp P o a (W.alloc (.cells cs e')) K Q else E :=
  step_append_any hT (hb.alloc _) hown (hb0.alloc _) (sl_new W cs e' size g hg hsz) (Bel.refl _) h1 (fun h => by cases h) hlen hgd s x ho hs hx h
end
end Go
namespace Go
open RowKit
def setL (xs : List Value) : Nat → List Value → List Value
  | _, [] => xs
  | o, v :: r => setL (xs.set o v) (o + 1) r
theorem setL_len : ∀ (vs : List Value) (o : Nat) (xs : List Value), (setL xs o vs).length = xs.length
  | [], _, _ => rfl
  | v :: r, o, xs => by rw [setL, setL_len r]; simp
theorem own_setCells {wB : World} {e : TypeId} {size g n c B : Nat} (hg : wB.heap.size ≤ g) : ∀ (vs : List Value) (o : Nat) (xs : List Value) (W : World), Bel wB W → Own W B e size (some ⟨g, 0, none⟩) n c xs →
    Bel wB (W.setCells g o vs) ∧ Own (W.setCells g o vs) B e size (some ⟨g, 0, none⟩) n c (setL xs o vs)
  | [], _, _, _, hb, h => ⟨hb, h⟩
  | v :: r, o, xs, W, hb, h => own_setCells hg r (o + 1) _ _ (hb.setCell (p := ⟨g, o, none⟩) hg v) (World.ownsRow.stored h o v).1
section
variable {P : Program} {ops : Array Oper} {rest : List Oper} {o : Oper} {a : Act} {Q : Exit → Act → World → Prop}
/-- a struct stored into a row of the call's own -/
theorem store_own {wB W : World} (hb : Bel wB W) {B g n c size : Nat} {e : TypeId} {xs : List Value} (hown : Own W B e size (some ⟨g, 0, none⟩) n c xs) (hg : wB.heap.size ≤ g) (off : Nat) (cells : Array Value) (hfit : off + cells.size ≤ xs.length) (hgd : o.guard = none) (ty : TypeId) (d v : Operand) (ho : o.op = .store ty d v) (hd : a.eval d = .pointer (some ⟨g, off, none⟩)) (hv : a.eval v = .agg cells) (hi : (P.info? ty).map (·.size) = some cells.size) (h1 : cells.all (·.oneCell') = true)
    (h : ∀ y, Own (ext wB y) B e size (some ⟨g, 0, none⟩) n c (setL xs off cells.toList) → wpList P ops Q rest (a.put o.dst undef) (ext wB y)) : wpList P ops Q (o :: rest) a W := by
  refine wpList_store_mid hgd ty d v ho g off cells hd hv (fun j hj => ?_) hi h1 ?_
  · have hl : off + j < xs.length := by omega
    obtain ⟨u, hu⟩ : ∃ u, xs[off + j]? = some u := ⟨_, List.getElem?_eq_getElem hl⟩
    exact ⟨by rw [own_cell hown hu]; rfl, own_frozen hown _⟩
  · obtain ⟨h2, h3⟩ := own_setCells hg cells.toList off xs W hb hown
    obtain ⟨y, hy⟩ := ext_of h2
    rw [hy] at h3 ⊢
    exact h y h3
end
end Go
namespace Go
open RowKit
theorem block_ne {a b g : Nat} (hne : b ≠ a) (h : some (⟨a, 0, none⟩ : Addr) = some ⟨g, 0, none⟩) : b ≠ g := by
  have e1 : a = g := by injection h with h; injection h
  rw [← e1]; exact hne
theorem own_other {W : World} {B n c b o size : Nat} {e : TypeId} {xs : List Value} {A : Option Addr} (h : Own W B e size A n c xs) (u : Value) (hne : ∀ g, A = some ⟨g, 0, none⟩ → b ≠ g) : Own (W.setCell ⟨b, o, none⟩ u) B e size A n c xs := by
  refine ⟨h.1, ?_⟩
  rcases h.2 with h2 | ⟨g, cap, cur, hv, hg, hh, r⟩
  · exact .inl h2
  · refine .inr ⟨g, cap, cur, hv, hg, ?_, r⟩
    have hbg : b ≠ g := hne g (by injection hv)
    have e1 : (W.setCell ⟨b, o, none⟩ u).heap[g]? = W.heap[g]? := by
      unfold World.setCell
      simp only [Array.getElem?_modify, if_neg hbg]
    rw [e1]; exact hh
end Go

namespace Go
open RowKit
/-- a cell of a block of W that may be written -/
structure Held (W : World) (b o : Nat) (v : Value) : Prop where
  lt : b < W.heap.size
  eq : W.cell? ⟨b, o, none⟩ = some v
  fr : W.frozen? ⟨b, o, none⟩ = false
theorem Held.bel {W W' : World} {b o : Nat} {v : Value} (h : Held W b o v) (hb : Bel W W') : Held W' b o v := by
  obtain ⟨x, rfl⟩ := ext_of hb
  exact ⟨by rw [size_ext]; have := h.lt; omega, by rw [cell_ext _ _ _ _ h.lt]; exact h.eq, by rw [frozen_ext _ _ _ _ h.lt]; exact h.fr⟩
theorem Held.new {W W' : World} {cs : Array Value} {e : TypeId} {j : Nat} {v : Value} (hb : Bel (W.alloc (.cells cs e)) W') (hv : cs[j]? = some v) : Held W' W.heap.size j v := by
  have h : Held (W.alloc (.cells cs e)) W.heap.size j v := ⟨by simp, by simp [go_sem, hv], by simp [go_sem]⟩
  exact h.bel hb
theorem own_split {w W' : World} {B : Nat} {e : TypeId} {size n c : Nat} {A : Option Addr} {xs : List Value} (h : ∃ y, W' = ext w y ∧ Own (ext w y) B e size A n c xs) : ∃ y, W' = ext w y := let ⟨y, hy, _⟩ := h; ⟨y, hy⟩
theorem own_here {w W' : World} {B : Nat} {e : TypeId} {size n c : Nat} {A : Option Addr} {xs : List Value} (h : ∃ y, W' = ext w y ∧ Own (ext w y) B e size A n c xs) : Own W' B e size A n c xs := by
  obtain ⟨y, rfl, h⟩ := h; exact h
/-- worlds that differ in block g alone -/
structure Apart (g : Nat) (W W' : World) : Prop where
  os : W'.os = W.os
  tape : W'.tape = W.tape
  output : W'.output = W.output
  size : W'.heap.size = W.heap.size
  drawn : W.drawn ≤ W'.drawn
  block : ∀ b, b ≠ g → W'.heap[b]? = W.heap[b]?
theorem Apart.refl (g : Nat) (W : World) : Apart g W W := ⟨rfl, rfl, rfl, rfl, Nat.le_refl _, fun _ _ => rfl⟩
theorem Apart.trans {g : Nat} {W W1 W2 : World} (h : Apart g W W1) (k : Apart g W1 W2) : Apart g W W2 :=
  ⟨k.os.trans h.os, k.tape.trans h.tape, k.output.trans h.output, k.size.trans h.size, Nat.le_trans h.drawn k.drawn, fun b hb => (k.block b hb).trans (h.block b hb)⟩
theorem Apart.setCell {g : Nat} {W W1 : World} (h : Apart g W W1) (o : Nat) (u : Value) : Apart g W (W1.setCell ⟨g, o, none⟩ u) :=
  h.trans ⟨rfl, rfl, rfl, by simp [World.setCell], Nat.le_refl _, fun b hb => by unfold World.setCell; simp only [Array.getElem?_modify, if_neg (Ne.symm hb)]⟩
theorem Apart.bel {g : Nat} {w W W1 : World} (h : Apart g W W1) (hb : Bel w W) (hg : w.heap.size ≤ g) : Bel w W1 :=
  ⟨⟨h.os.trans hb.os, h.tape.trans hb.tape, h.output.trans hb.output, by rw [h.size]; exact hb.size, fun k hk => (h.block k (by omega)).trans (hb.block k hk)⟩, Nat.le_trans hb.mono h.drawn⟩
theorem Held.apart {g : Nat} {W W' : World} {b o : Nat} {v : Value} (h : Held W b o v) (ha : Apart g W W') (hne : b ≠ g) : Held W' b o v :=
  ⟨by rw [ha.size]; exact h.lt, by have := h.eq; unfold World.cell? at this ⊢; rw [ha.block b hne]; exact this, by have := h.fr; unfold World.frozen? at this ⊢; rw [ha.block b hne]; exact this⟩
theorem Sl.apart {g : Nat} {W W' : World} {size n c : Nat} {A : Option Addr} {xs : List Value} (h : Sl W size A n c xs) (ha : Apart g W W') (hne : ∀ b o, A = some ⟨b, o, none⟩ → b ≠ g) : Sl W' size A n c xs :=
  ⟨h.1, h.2.1, fun hn => by
    obtain ⟨b, o, hA, hb, hc⟩ := h.2.2 hn
    refine ⟨b, o, hA, by rw [ha.size]; exact hb, fun j u hu => ?_⟩
    have h1 := hc j u hu
    unfold World.cell? at h1 ⊢
    rw [ha.block b (hne b o hA)]; exact h1⟩
theorem Own.ne {W : World} {B : Nat} {e : TypeId} {size n c : Nat} {A : Option Addr} {xs : List Value} (h : Own W B e size A n c xs) {g : Nat} (hg : g < B) : ∀ b o, A = some ⟨b, o, none⟩ → b ≠ g := by
  intro b o hA
  rcases h.row with ⟨h0, _⟩ | ⟨g', cur, h0, hr, _⟩
  · rw [hA] at h0; cases h0
  · have e1 : b = g' := by rw [hA] at h0; injection h0 with h0; injection h0
    have := hr.1
    omega
end Go
namespace Go
open RowKit
theorem Own.ats {W : World} {B : Nat} {e : TypeId} {size n c g : Nat} {xs : List Value} (h : Own W B e size (some ⟨g, 0, none⟩) n c xs) : B ≤ g ∧ g < W.heap.size := by
  rcases h.row with ⟨h0, _⟩ | ⟨g', cur, h0, hr, _⟩
  · cases h0
  · have e1 : g = g' := by injection h0 with h0; injection h0
    subst e1
    exact ⟨hr.1, hr.lt⟩
theorem Own.shape {W : World} {B : Nat} {e : TypeId} {size n c : Nat} {A : Option Addr} {xs : List Value} (h : Own W B e size A n c xs) : (A = none ∧ n = 0) ∨ ∃ g, A = some ⟨g, 0, none⟩ ∧ B ≤ g ∧ g < W.heap.size := by
  rcases h.row with ⟨h0, h1, _⟩ | ⟨g', cur, h0, hr, _⟩
  · exact .inl ⟨h0, h1⟩
  · exact .inr ⟨g', h0, hr.1, hr.lt⟩
end Go

namespace Go.Proofs.YtpojhcjdcbegiaaGreat
open Go.RowKit Go.Pel
set_option maxRecDepth 10000 in
set_option maxHeartbeats 2000000 in
theorem sorted1_any (p q : Pt) (n d : Int) (rb : Nat) (w : World) (hn : -9223372036854775808 ≤ n ∧ n ≤ 9223372036854775807) (hd : -9223372036854775808 ≤ d ∧ d ≤ 9223372036854775807) (r0 : Held w rb 0 (.int .i64 n)) (r1 : Held w rb 1 (.int .i64 d)) (ht : p.id ≠ q.id → twoChk p q n d = 0) :
    Calls Tryz.prog 51 #[.agg #[.int .i64 p.id, .int .i64 p.a, .int .i64 p.b], .agg #[.int .i64 q.id, .int .i64 q.a, .int .i64 q.b], .pointer (some ⟨rb, 0, none⟩)] w fun e w' => e = .returned (.int .i64 (cfP n d p q)) ∧ ∃ x, w' = ext w x := by
  have hb := r0.lt
  have c0 := r0.eq
  have c1 := r1.eq
  have q1 := Lib.hid (fun W => ahead_any p q n d W hn hd)
  clear hn hd r0 r1
  by_cases h : p.id = q.id
  · have HV := Lib.hid (show (0 : Int) = cfP n d p q from (if_pos h).symm)
    clear ht q1
    go_enter Tryz.func51, Tryz.ntmps51
    go_wp2
    (go_ret; exact ⟨ret_int (by exact HV.out), ext_of (by (try simp only [ext_ext]); repeat (first | exact Bel.refl _ | assumption | refine bel_and ?_ _ | refine bel_drews ?_ _ | refine Bel.ext ?_ _ | refine Bel.alloc ?_ _ | refine Bel.drewN ?_ _))⟩)
  · have HA : aheadV p q n d = (leads p q n d, 0) := if_pos (ht h)
    rw [HA] at q1
    clear ht HA
    rcases hL : leads p q n d with _ | _
    · have HV := Lib.hid (show (1 : Int) = cfP n d p q by unfold cfP; rw [if_neg h, hL]; rfl)
      rw [hL] at q1
      clear hL
      go_enter Tryz.func51, Tryz.ntmps51
      go_wp2_with ((go_at_call 52; (with_reducible refine (q1.out _).mono ?_); rintro e _ ⟨rfl, nx, rfl⟩))
      (go_ret; exact ⟨ret_int (by exact HV.out), ext_of (by (try simp only [ext_ext]); repeat (first | exact Bel.refl _ | assumption | refine bel_and ?_ _ | refine bel_drews ?_ _ | refine Bel.ext ?_ _ | refine Bel.alloc ?_ _ | refine Bel.drewN ?_ _))⟩)
    · have HV := Lib.hid (show (-1 : Int) = cfP n d p q by unfold cfP; rw [if_neg h, hL]; rfl)
      rw [hL] at q1
      clear hL
      go_enter Tryz.func51, Tryz.ntmps51
      go_wp2_with ((go_at_call 52; (with_reducible refine (q1.out _).mono ?_); rintro e _ ⟨rfl, nx, rfl⟩))
      (go_ret; exact ⟨ret_int (by exact HV.out), ext_of (by (try simp only [ext_ext]); repeat (first | exact Bel.refl _ | assumption | refine bel_and ?_ _ | refine bel_drews ?_ _ | refine Bel.ext ?_ _ | refine Bel.alloc ?_ _ | refine Bel.drewN ?_ _))⟩)
end Go.Proofs.YtpojhcjdcbegiaaGreat

namespace Go
open RowKit Go.Sort Go.Proofs Go.Shelf
theorem flatK_list {α : Type} [Inhabited α] (enc : α → List Value) (k : Nat) (hk : ∀ x, (enc x).length = k) : ∀ (l : List α), (flatK enc k l.toArray).toList = l.flatMap enc := by
  intro l
  have key : ∀ (l : List α) (t : Nat), t < l.length * k → (l.flatMap enc)[t]? = some ((enc l[t / k]!)[t % k]!) := by
    intro l
    induction l with
    | nil => intro t ht; simp at ht
    | cons a r ih =>
      intro t ht
      have k0 : 0 < k := by
        rcases Nat.eq_zero_or_pos k with h | h
        · subst h; simp at ht
        · exact h
      rw [List.flatMap_cons]
      by_cases hlt : t < k
      · rw [List.getElem?_append_left (by rw [hk]; exact hlt), Nat.div_eq_of_lt hlt, Nat.mod_eq_of_lt hlt]
        have : t < (enc a).length := by rw [hk]; exact hlt
        simp [this]
      · rw [List.getElem?_append_right (by rw [hk]; omega), hk]
        have h2 : t - k < r.length * k := by
          rw [List.length_cons, Nat.add_mul, Nat.one_mul] at ht; omega
        rw [ih (t - k) h2]
        have e1 : t / k = (t - k) / k + 1 := by
          have := Nat.div_eq_sub_div k0 (by omega : k ≤ t)
          omega
        have e2 : t % k = (t - k) % k := Nat.mod_eq_sub_mod (by omega)
        rw [e1, e2]
        simp
  have hlen : (l.flatMap enc).length = l.length * k := by
    induction l with
    | nil => simp
    | cons a r ih => rw [List.flatMap_cons, List.length_append, ih, hk, List.length_cons, Nat.add_mul, Nat.one_mul]; omega
  apply List.ext_getElem?
  intro t
  by_cases ht : t < l.length * k
  · rw [key l t ht]
    simp [flatK, ht]
  · rw [List.getElem?_eq_none (by simp [flatK]; omega), List.getElem?_eq_none (by rw [hlen]; omega)]
theorem row_put {w : World} {base g cap size : Nat} {e : TypeId} {cur : List Value} (h : Row w base e size g cap cur) (q : Nat) (F : Array Value) (hF : F.size ≤ cur.length) : Row (putRow id (Sort.ahead w q) g 0 F) base e size g cap (F.toList ++ cur.drop F.size) := by
  refine ⟨h.1, ?_, h.2.2.1, ?_⟩
  · have : putCells id 0 F cur.toArray = (F.toList ++ cur.drop F.size).toArray := by
      apply Array.ext_getElem?
      intro k
      simp only [putCells, Array.getElem?_mapIdx, List.getElem?_toArray]
      by_cases hk : k < F.size
      · rw [List.getElem?_append_left (by simpa using hk)]
        have : k < cur.length := by omega
        simp [this, hk]
      · rw [List.getElem?_append_right (by simpa using hk)]
        simp [hk, show F.size + (k - F.size) = k by omega]
    unfold putRow mapBlock Sort.ahead
    simp [Array.getElem?_modify, h.2.1, onCells, this]
  · rw [List.length_append, List.length_drop, ← h.len]; simp; omega
theorem apart_put (g : Nat) (w : World) (q off : Nat) (F : Array Value) : Apart g w (putRow id (Sort.ahead w q) g off F) :=
  ⟨rfl, rfl, rfl, by simp [putRow, mapBlock, Sort.ahead], by simp [putRow, mapBlock, Sort.ahead], fun b hb => by simp [putRow, mapBlock, Sort.ahead, Array.getElem?_modify, Ne.symm hb]⟩
theorem bel_grow (w : World) (os : Array Obj) : Bel w (grow w os) :=
  ⟨⟨rfl, rfl, rfl, by simp [grow], fun k hk => by simp only [grow]; rw [Array.getElem?_append_left hk]⟩, Nat.le_refl _⟩
theorem ext_grow (w : World) (x : Beyond) : ext w x = grow (w.drewN x.drawn) x.objs := by
  unfold ext grow World.drewN; rfl
end Go
namespace Go.Proofs.YtpojhcjdcbegiaaGreat
open Go.RowKit Go.Pel Go.Sort Go.Shelf
def encL (l : List Pt) (x : {p : Pt // p ∈ l}) : List Value := x.1.cells
theorem flat_attach (l : List Pt) (m : List {p : Pt // p ∈ l}) : m.flatMap (encL l) = vp (m.map Subtype.val) := by
  unfold vp encL; rw [List.flatMap_map]
set_option maxRecDepth 10000 in
set_option maxHeartbeats 1000000 in
theorem sortFunc_any (A : Option Addr) (c : Nat) (l : List Pt) (n d : Int) (rb B : Nat) (wB w : World) (hs : Own w B 26 3 A l.length c (vp l)) (hb : Bel wB w) (hB : wB.heap.size ≤ B) (hrb : rb < B)
    (r0 : Held w rb 0 (.int .i64 n)) (r1 : Held w rb 1 (.int .i64 d)) (hn : -9223372036854775808 ≤ n ∧ n ≤ 9223372036854775807) (hd : -9223372036854775808 ≤ d ∧ d ≤ 9223372036854775807) (hl : l.length ≤ 1000000) (hi : IdsApart l) (ht : ∀ p ∈ l, ∀ q ∈ l, p.id ≠ q.id → twoChk p q n d = 0) :
    Calls Tryz.prog 50 #[.slice A l.length c, .func (.func 51) #[] #[.pointer (some ⟨rb, 0, none⟩)]] w fun e w' => e = .returned (.tuple #[]) ∧ ∃ y, w' = ext wB y ∧ Own (ext wB y) B 26 3 A l.length c (vp (sortP n d l)) := by
  by_cases h0 : l = []
  · subst h0
    have hcon := AnyF.slices_SortFunc_none Tryz.laysSort A c (.func (.func 51) #[] #[.pointer (some ⟨rb, 0, none⟩)]) w
    refine Calls.mono hcon ?_
    rintro e w' ⟨rfl, rfl⟩
    refine ⟨rfl, own_exists hb ?_ (Bel.refl _)⟩
    have e0 : sortP n d [] = [] := List.eq_nil_of_length_eq_zero (sortP_length n d [])
    rw [e0]; exact hs
  · rcases hs.row with ⟨rfl, hn, _⟩ | ⟨g, cur, rfl, hr, hnc, hcur⟩
    · exact absurd (List.eq_nil_of_length_eq_zero hn) h0
    have hg := hr.1
    haveI : Inhabited {p : Pt // p ∈ l} := ⟨⟨l.head h0, List.head_mem h0⟩⟩
    have hcl : (vp l).length ≤ cur.length := by rw [← hcur, List.length_take]; omega
    have eg : ∀ args w, (callFunc 51 args).run Tryz.prog w = .ok (.enter 51 args) w := enters_of Tryz.func51 (by kernel_rfl) rfl
    have hk : ∀ x, (encL l x).length = 3 := fun _ => rfl
    have hflat : ∀ m : List {p : Pt // p ∈ l}, (flatK (encL l) 3 m.toArray).toList = vp (m.map Subtype.val) := fun m => by rw [flatK_list _ _ hk, flat_attach]
    have hcmp : CmpLays Tryz.prog 51 #[.pointer (some ⟨rb, 0, none⟩)] (encL l) 3 (cfL n d l) g 0 l.attach.toArray.size w := by
      intro m os dk _ x y
      have hap : Apart g w (putRowK (encL l) 3 (Sort.ahead w m) g 0 dk) := apart_put g w m 0 _
      have hbg : Bel (putRowK (encL l) 3 (Sort.ahead w m) g 0 dk) (sortWorldK (encL l) 3 w g 0 m dk os) := bel_grow _ os
      have h := sorted1_any x.1 y.1 n d rb (sortWorldK (encL l) 3 w g 0 m dk os) hn hd ((r0.apart hap (by omega)).bel hbg) ((r1.apart hap (by omega)).bel hbg) (ht _ x.2 _ y.2)
      refine Calls.mono h ?_
      rintro e w' ⟨rfl, z, rfl⟩
      exact ⟨rfl, z.drawn, z.objs, ext_grow _ z⟩
    have hfl : (flatK (encL l) 3 l.attach.toArray) = (vp l).toArray := by
      apply Array.toList_inj.1
      rw [hflat, List.attach_map_subtype_val]
    have hH : HoldsK (encL l) 3 w g 0 l.attach.toArray := by
      unfold HoldsK
      rw [hfl]
      intro j hj
      have hj' : j < (vp l).length := by simpa using hj
      refine ⟨?_, hr.frozen _⟩
      rw [Nat.zero_add]
      refine hr.cell ?_
      have : cur[j]? = (vp l)[j]? := by
        rw [← hcur, List.getElem?_take, if_pos]
        rw [vp_len] at hj'; exact hj'
      rw [this]
      simp [hj']
    have hcon := AnyQ.slices_SortFunc_total Tryz.laysSort 3 Tryz.isAgg26 Tryz.sizeOf26 (encL l) hk (fun x v hv => pt_one x.1 v hv) (cfL n d l) (swo_cfL hi) 51 #[.pointer (some ⟨rb, 0, none⟩)] g 0 c l.attach.toArray w eg hcmp hH hr.lt (by simp; omega) (fun x y h1 h2 => tot_cfL hi x y h1 h2)
    have hsz : l.attach.toArray.size = l.length := by simp
    rw [hsz] at hcon
    refine Calls.mono hcon ?_
    rintro e w' ⟨rfl, m, os, rfl⟩
    refine ⟨rfl, ?_⟩
    have hF : flatK (encL l) 3 (l.attach.mergeSort fun x y => !(ltOf (cfL n d l)) y x).toArray = (vp (sortP n d l)).toArray := by
      apply Array.toList_inj.1
      rw [hflat]; rfl
    have hlen : (vp (sortP n d l)).length = l.length * 3 := by rw [vp_len, sortP_length]
    have hrow := row_put hr m (vp (sortP n d l)).toArray (by rw [vp_len] at hcl; simp; omega)
    have hap : Apart g w (putRow id (Sort.ahead w m) g 0 (vp (sortP n d l)).toArray) := apart_put g w m 0 _
    have hown := hrow.own hnc
    have htk : List.take (l.length * 3) ((vp (sortP n d l)).toArray.toList ++ List.drop (vp (sortP n d l)).toArray.size cur) = vp (sortP n d l) := by
      simp only [List.size_toArray]
      rw [List.take_append_of_le_length (by omega), ← hlen, List.take_length]
    rw [htk] at hown
    unfold sortWorldK putRowK
    show ∃ y, grow (putRow id (Sort.ahead w m) g 0 (flatK (encL l) 3 (l.attach.mergeSort fun x y => !(ltOf (cfL n d l)) y x).toArray)) os = ext wB y ∧ _
    rw [hF]
    exact own_exists ((hap.bel hb (by omega)).trans (bel_grow _ os)) hown (bel_grow _ os)
end Go.Proofs.YtpojhcjdcbegiaaGreat

namespace Go.Pel
def fieldSorted (l : List Pt) (n d : Int) : List Pt × Int := if fieldChk l ≠ 0 then ([], fieldChk l) else if ratioChk n d ≠ 0 then ([], ratioChk n d) else (sortP n d l, 0)
theorem idsApart_inc {l : List Pt} (h : incB l = true) : IdsApart l := by
  intro p hp q hq he
  obtain ⟨i, hi⟩ := List.mem_iff_getElem?.1 hp
  obtain ⟨j, hj⟩ := List.mem_iff_getElem?.1 hq
  rcases (by omega : i < j ∨ j < i ∨ i = j) with k | k | k
  · have := inc_lt h k hi hj; omega
  · have := inc_lt h k hj hi; omega
  · subst k; rw [hi] at hj; exact Option.some.inj hj
end Go.Pel
namespace Go.Proofs.YtpojhcjdcbegiaaGreat
open Go.RowKit Go.Pel
set_option maxRecDepth 10000 in
set_option maxHeartbeats 2000000 in
theorem sorted_any (A : Option Addr) (c : Nat) (l : List Pt) (n d : Int) (w : World) (hn : -9223372036854775808 ≤ n ∧ n ≤ 9223372036854775807) (hd : -9223372036854775808 ≤ d ∧ d ≤ 9223372036854775807) (hs : Sl w 3 A l.length c (vp l)) (hn0 : A = none → c = 0) :
    Calls Tryz.prog 33 #[.agg #[.slice A l.length c], .agg #[.int .i64 n, .int .i64 d]] w fun e w' => ∃ A' c', e = .returned (.tuple #[.slice A' (fieldSorted l n d).1.length c', .int .i64 (fieldSorted l n d).2]) ∧ ∃ x, w' = ext w x ∧ Own (ext w x) w.heap.size 26 3 A' (fieldSorted l n d).1.length c' (vp (fieldSorted l n d).1) := by
  have q := Lib.hid (fun W hb => fieldCheck_any A c l W (hs.bel (w' := W) hb))
  have q2 := Lib.hid (fun W => ratioCheck_any n d W hn hd)
  by_cases h : fieldChk l = 0
  · rw [h] at q
    obtain ⟨h64, hchk, hinc⟩ := fieldChk_zero h
    by_cases h2 : ratioChk n d = 0
    · rw [h2] at q2
      have HF : Hid (fieldSorted l n d = (sortP n d l, 0)) := Lib.hid (by unfold fieldSorted; rw [if_neg (by simpa using h), if_neg (by simpa using h2)])
      have q3 := Lib.hid (fun W hb => clone_any A c l W (hs.bel (w' := W) hb) hn0 (by omega))
      have hia := idsApart_inc hinc
      have hap : ∀ p ∈ l, ∀ q ∈ l, p.id ≠ q.id → twoChk p q n d = 0 := fun p hp q hq hne => twoChk_ok ⟨hchk p hp, hchk q hq, h2⟩ hne
      have q4 := Lib.hid (fun (A2 : Option Addr) (c2 rb B : Nat) (W : World) (hs2 : Own W B 26 3 A2 l.length c2 (vp l)) (hb : Bel w W) (hB : w.heap.size ≤ B) (hrb : rb < B) (r0 : Held W rb 0 (.int .i64 n)) (r1 : Held W rb 1 (.int .i64 d)) => sortFunc_any A2 c2 l n d rb B w W hs2 hb hB hrb r0 r1 hn hd (by omega) hia hap)
      rw [HF.out]
      clear h h2 h64 hchk hinc hia hap hn hd HF
      have HL := Lib.hid (sortP_length n d l)
      go_enter Tryz.func33, Tryz.ntmps33
      go_wp2_with (first | (go_at_call 48; refine (q.out _ (by (try simp only [ext_ext]); repeat (first | exact Bel.refl _ | assumption | refine bel_and ?_ _ | refine bel_drews ?_ _ | refine Bel.ext ?_ _ | refine Bel.alloc ?_ _ | refine Bel.drewN ?_ _))).mono ?_; rintro e _ ⟨rfl, nx, rfl⟩) | (go_at_call 25; refine (q2.out _).mono ?_; rintro e _ ⟨rfl, nx, rfl⟩))
      refine (q3.out _ (by (try simp only [ext_ext]); repeat (first | exact Bel.refl _ | assumption | refine bel_and ?_ _ | refine bel_drews ?_ _ | refine Bel.ext ?_ _ | refine Bel.alloc ?_ _ | refine Bel.drewN ?_ _))).mono ?_
      rintro e _ ⟨A2, c2, rfl, x2, rfl, own2⟩
      simp only [ext_ext] at own2 ⊢
      have own3 := own2.base_le (base' := w.heap.size + 2) (by simp [go_sem])
      clear own2
      generalize hZ : ((_ : Beyond).and _).and x2 = Z at own3 ⊢
      obtain ⟨W2, hW2⟩ : ∃ W2, ext ((w.alloc (.cells #[.slice A l.length c] 24)).alloc (.cells #[.int .i64 n, .int .i64 d] 31)) Z = W2 := ⟨_, rfl⟩
      rw [hW2] at own3 ⊢
      have hb2 : Bel w W2 := by rw [← hW2]; exact (by (try simp only [ext_ext]); repeat (first | exact Bel.refl _ | assumption | refine bel_and ?_ _ | refine bel_drews ?_ _ | refine Bel.ext ?_ _ | refine Bel.alloc ?_ _ | refine Bel.drewN ?_ _))
      have hb3 : Bel ((w.alloc (.cells #[.slice A l.length c] 24)).alloc (.cells #[.int .i64 n, .int .i64 d] 31)) W2 := by rw [← hW2]; exact bel_ext _ _
      have e1 : (w.alloc (.cells #[.slice A l.length c] 24)).heap.size = w.heap.size + 1 := by simp [go_sem]
      have r0 := Held.new (j := 0) hb3 rfl
      have r1 := Held.new (j := 1) hb3 rfl
      rw [e1] at r0 r1
      have q5 := q4.out A2 c2 (w.heap.size + 1) (w.heap.size + 2) W2 own3 hb2 (by omega) (by omega) r0 r1
      clear hW2 hZ q4 q3 q2 q r0 r1 hb3 own3
      go_wp2_with (go_at_call 50; refine q5.mono ?_; rintro e _ ⟨rfl, y, rfl, own4⟩)
      go_ret2
      refine ⟨A2, c2, ?_, y, rfl, ?_⟩
      · rw [HL.out]; rfl
      · rw [HL.out]; exact own4.base_le (by omega)
    · rw [show fieldSorted l n d = ([], ratioChk n d) by unfold fieldSorted; rw [if_neg (by simpa using h), if_pos h2]]
      have h2' : (ratioChk n d != 0) = true := by simpa using h2
      clear h h64 hchk hinc h2 hn hd
      go_enter Tryz.func33, Tryz.ntmps33
      go_wp2_with (first | (go_at_call 48; refine (q.out _ (by (try simp only [ext_ext]); repeat (first | exact Bel.refl _ | assumption | refine bel_and ?_ _ | refine bel_drews ?_ _ | refine Bel.ext ?_ _ | refine Bel.alloc ?_ _ | refine Bel.drewN ?_ _))).mono ?_; rintro e _ ⟨rfl, nx, rfl⟩) | (go_at_call 25; refine (q2.out _).mono ?_; rintro e _ ⟨rfl, nx, rfl⟩))
      go_ret2
      exact ⟨none, 0, rfl, own_exists (by (try simp only [ext_ext]); repeat (first | exact Bel.refl _ | assumption | refine bel_and ?_ _ | refine bel_drews ?_ _ | refine Bel.ext ?_ _ | refine Bel.alloc ?_ _ | refine Bel.drewN ?_ _)) (Own.nil_ _ _ _ _) (Bel.refl _)⟩
  · rw [show fieldSorted l n d = ([], fieldChk l) by unfold fieldSorted; rw [if_pos h]]
    have h' : (fieldChk l != 0) = true := by simpa using h
    clear h hn hd
    go_enter Tryz.func33, Tryz.ntmps33
    go_wp2_with (first | (go_at_call 48; refine (q.out _ (by (try simp only [ext_ext]); repeat (first | exact Bel.refl _ | assumption | refine bel_and ?_ _ | refine bel_drews ?_ _ | refine Bel.ext ?_ _ | refine Bel.alloc ?_ _ | refine Bel.drewN ?_ _))).mono ?_; rintro e _ ⟨rfl, nx, rfl⟩))
    go_ret2
    exact ⟨none, 0, rfl, own_exists (by (try simp only [ext_ext]); repeat (first | exact Bel.refl _ | assumption | refine bel_and ?_ _ | refine bel_drews ?_ _ | refine Bel.ext ?_ _ | refine Bel.alloc ?_ _ | refine Bel.drewN ?_ _)) (Own.nil_ _ _ _ _) (Bel.refl _)⟩
end Go.Proofs.YtpojhcjdcbegiaaGreat

namespace Go.Pel
def fieldLeader (l : List Pt) (n d : Int) : Int × Int := if (fieldSorted l n d).2 ≠ 0 then (0, (fieldSorted l n d).2) else match (fieldSorted l n d).1 with | [] => (0, 42) | p :: _ => (p.id, 0)
end Go.Pel
namespace Go.Proofs.YtpojhcjdcbegiaaGreat
open Go.RowKit Go.Pel
end Go.Proofs.YtpojhcjdcbegiaaGreat

namespace Go.Pel
open Go
def fieldOrder (l : List Pt) (n d : Int) : List Int × Int := if (fieldSorted l n d).2 ≠ 0 then ([], (fieldSorted l n d).2) else ((fieldSorted l n d).1.map Pt.id, 0)
def ordAt (m : List Pt) (k : Nat) : List Value := vi ((m.take k).map Pt.id) ++ List.replicate (m.length - k) (.int .i64 0)
theorem ordAt_set {m : List Pt} {k : Nat} {p : Pt} (h : m[k]? = some p) : (ordAt m k).set k (.int .i64 p.id) = ordAt m (k + 1) := by
  have hk := (List.getElem?_eq_some_iff.1 h).1
  unfold ordAt
  have hl : (vi ((m.take k).map Pt.id)).length = k := by simp [vi]; omega
  rw [List.set_append_right _ _ (by omega), hl, Nat.sub_self]
  obtain ⟨r, hr⟩ : ∃ r, m.length - k = r + 1 := ⟨m.length - k - 1, by omega⟩
  rw [hr, List.replicate_succ, List.set_cons_zero, List.take_add_one, h]
  simp [vi, show m.length - (k + 1) = r by omega]
theorem ordAt_get {m : List Pt} {k : Nat} (hk : k < m.length) : (ordAt m k)[k]? = some (.int .i64 0) := by
  unfold ordAt
  have hl : (vi ((m.take k).map Pt.id)).length = k := by simp [vi]; omega
  rw [List.getElem?_append_right (by omega), hl, Nat.sub_self, List.getElem?_replicate, if_pos (by omega)]
theorem ordAt_end (m : List Pt) : ordAt m m.length = vi (m.map Pt.id) := by simp [ordAt]
end Go.Pel
namespace Go.Proofs.YtpojhcjdcbegiaaGreat
open Go.RowKit Go.Pel
theorem slt_ints : SlT Tryz.prog 60 3 (.int .i64 0) 1 8 := ⟨by kernel_rfl, by kernel_rfl, by kernel_rfl, by decide, by decide⟩
theorem made_ints (n : Nat) : (madeCells (Value.int .i64 0).cells (n * 1)).toList = List.replicate n (.int .i64 0) := by
  apply List.ext_getElem?
  intro k
  by_cases hk : k < n <;> simp [madeCells, Value.cells, Nat.mod_one, List.getElem?_replicate, hk]
set_option maxRecDepth 10000 in
set_option maxHeartbeats 2000000 in
theorem order_any (A : Option Addr) (c : Nat) (l : List Pt) (n d : Int) (w : World) (hn : -9223372036854775808 ≤ n ∧ n ≤ 9223372036854775807) (hd : -9223372036854775808 ≤ d ∧ d ≤ 9223372036854775807) (hs : Sl w 3 A l.length c (vp l)) (hn0 : A = none → c = 0) (hl : l.length ≤ 1000000) :
    Calls Tryz.prog 22 #[.agg #[.slice A l.length c], .agg #[.int .i64 n, .int .i64 d]] w fun e w' => ∃ A' c', e = .returned (.tuple #[.slice A' (fieldOrder l n d).1.length c', .int .i64 (fieldOrder l n d).2]) ∧ ∃ x, w' = ext w x ∧ Own (ext w x) w.heap.size 3 1 A' (fieldOrder l n d).1.length c' (vi (fieldOrder l n d).1) := by
  have q := Lib.hid (fun W hb => sorted_any A c l n d W hn hd (hs.bel (w' := W) hb) hn0)
  have hlm : (fieldSorted l n d).1.length ≤ 1000000 := by
    unfold fieldSorted; split
    · simp
    · split
      · simp
      · rw [sortP_length]; exact hl
  unfold fieldOrder
  generalize fieldSorted l n d = F at q hlm ⊢
  obtain ⟨m, v⟩ := F
  simp only at q hlm ⊢
  by_cases h : v = 0
  · subst h
    rw [if_neg (by decide)]
    simp only [List.length_map]
    clear hn hd
    go_enter Tryz.func22, Tryz.ntmps22
    go_wp2_with (first | (refine make_ext slt_ints (Bel.refl _) (n := m.length) (by omega) rfl _ _ rfl rfl rfl ?_; rintro g y hg hown; rw [made_ints] at hown; have hL2 := own2.sl) | (go_at_call 33; refine (q.out _ (by (try simp only [ext_ext]); repeat (first | exact Bel.refl _ | assumption | refine bel_and ?_ _ | refine bel_drews ?_ _ | refine Bel.ext ?_ _ | refine Bel.alloc ?_ _ | refine Bel.drewN ?_ _))).mono ?_; rintro e W1 ⟨A2, c2, rfl, hx2⟩; have own2 := own_here hx2; have hb0 := bel_of (own_split hx2); have hb1 : Bel w W1 := (by refine Bel.trans ?_ hb0; exact (by (try simp only [ext_ext]); repeat (first | exact Bel.refl _ | assumption | refine bel_and ?_ _ | refine bel_drews ?_ _ | refine Bel.ext ?_ _ | refine Bel.alloc ?_ _ | refine Bel.drewN ?_ _))); clear hx2 hb0))
    clear own2
    go_loopw [25] (fun i wr => ∃ (k : Nat) (y : Beyond), k ≤ m.length ∧ i = .int .i64 k ∧ wr = ext W1 y ∧ Own (ext W1 y) W1.heap.size 3 1 (some ⟨g, 0, none⟩) m.length m.length (ordAt m k)) (fun i _ => m.length - (intOf i).toNat)
    case atStart => exact ⟨0, y, Nat.zero_le _, rfl, rfl, by simpa [ordAt, vi] using hown⟩
    case round =>
      obtain ⟨k, y3, hk, rfl, rfl, own3⟩ := hrel
      by_cases hlt : k < m.length
      · obtain ⟨p, hp⟩ : ∃ p, m[k]? = some p := ⟨_, List.getElem?_eq_getElem hlt⟩
        have HS := Lib.hid (ordAt_set hp)
        have b0 := own_cell own3 (ordAt_get hlt)
        have z0 := own_frozen own3 k
        obtain ⟨b, o, rfl, hb2⟩ := hL2.at_ (by omega)
        obtain ⟨r0, r1, r2⟩ := pt_at (hL2.bel (w' := ext W1 y3) (bel_ext _ _)) hp
        have hlt' : (k : Int) < (m.length : Int) := by omega
        have hgs := own3.ats.2
        have hb3 : b < (ext W1 y3).heap.size := by simp [go_sem]; omega
        have hb4 : Bel W1 (ext W1 y3) := bel_ext _ _
        clear hp hown
        generalize ext W1 y3 = V at *
        have hgne : ¬ g = V.heap.size := by omega
        have hgne' : ¬ V.heap.size = g := by omega
        go_wp2
        go_roundw
        case rel =>
          obtain ⟨y5, hy5, own5⟩ := own_exists (w := W1) ((hb4.setCell (p := ⟨g, k, none⟩) hg (.int .i64 p.id)).alloc (.cells #[.int .i64 p.id, .int .i64 p.a, .int .i64 p.b] 26)) (World.ownsRow.stored own3 k (.int .i64 p.id)).1 ((Bel.refl _).alloc _)
          rw [HS.out] at own5
          exact ⟨k + 1, y5, by omega, by go_num, hy5, own5⟩
        case measure => (first | (simp [intOf]; done) | (simp [intOf]; omega))
      · obtain rfl : k = m.length := by omega
        rw [ordAt_end] at own3
        go_wp2
        go_ret2
        exact ⟨some ⟨g, 0, none⟩, m.length, rfl, own_exists (by (try simp only [ext_ext]); repeat (first | exact Bel.refl _ | assumption | refine bel_and ?_ _ | refine bel_drews ?_ _ | refine Bel.ext ?_ _ | refine Bel.alloc ?_ _ | refine Bel.drewN ?_ _)) (own3.base_le hb1.size) (Bel.refl _)⟩
  · rw [if_pos h]
    have h' : (v != 0) = true := by simpa using h
    clear h hn hd
    go_enter Tryz.func22, Tryz.ntmps22
    go_wp2_with (go_at_call 33; refine (q.out _ (by (try simp only [ext_ext]); repeat (first | exact Bel.refl _ | assumption | refine bel_and ?_ _ | refine bel_drews ?_ _ | refine Bel.ext ?_ _ | refine Bel.alloc ?_ _ | refine Bel.drewN ?_ _))).mono ?_; rintro e _ ⟨A2, c2, rfl, x2, rfl, own2⟩)
    go_ret2
    exact ⟨none, 0, rfl, own_exists (by (try simp only [ext_ext]); repeat (first | exact Bel.refl _ | assumption | refine bel_and ?_ _ | refine bel_drews ?_ _ | refine Bel.ext ?_ _ | refine Bel.alloc ?_ _ | refine Bel.drewN ?_ _)) (Own.nil_ _ _ _ _) (Bel.refl _)⟩
end Go.Proofs.YtpojhcjdcbegiaaGreat

namespace Go.Pel
open Go Go.RowKit
def ixI (l : List Int) (x : Int) : Int := match l.findIdx? (· == x) with | some k => (k : Int) | none => -1
theorem ixI_hit {l : List Int} {x : Int} {k : Nat} (hk : l[k]? = some x) (h : ∀ (i : Nat) (y : Int), i < k → l[i]? = some y → y ≠ x) : ixI l x = k := by
  have : l.findIdx? (· == x) = some k := by
    rw [List.findIdx?_eq_some_iff_getElem]
    obtain ⟨h1, h2⟩ := List.getElem?_eq_some_iff.1 hk
    refine ⟨h1, by simp [h2], fun j hj => ?_⟩
    have := h j _ hj (List.getElem?_eq_getElem (by omega))
    simpa using this
  unfold ixI; rw [this]
theorem ixI_miss {l : List Int} {x : Int} (h : ∀ (i : Nat) (y : Int), l[i]? = some y → y ≠ x) : ixI l x = -1 := by
  have : l.findIdx? (· == x) = none := by
    rw [List.findIdx?_eq_none_iff]
    intro y hy
    obtain ⟨i, hi⟩ := List.mem_iff_getElem?.1 hy
    simpa using h i y hi
  unfold ixI; rw [this]
theorem ixI_range (l : List Int) (x : Int) : ixI l x = -1 ∨ (0 ≤ ixI l x ∧ ixI l x < l.length ∧ l[(ixI l x).toNat]? = some x) := by
  unfold ixI
  cases h : l.findIdx? (· == x) with
  | none => exact .inl rfl
  | some k =>
    rw [List.findIdx?_eq_some_iff_getElem] at h
    obtain ⟨h1, h2, _⟩ := h
    refine .inr ⟨by simp, by simpa using h1, ?_⟩
    simp [h1]; simpa using h2
theorem sl_int {w : World} {b o n c : Nat} {l : List Int} (h : Sl w 1 (some ⟨b, o, none⟩) n c (vi l)) {k : Nat} {x : Int} (hx : l[k]? = some x) : w.cell? ⟨b, o + k, none⟩ = some (.int .i64 x) := by
  have hl := h.2.1
  have hk := (List.getElem?_eq_some_iff.1 hx).1
  obtain ⟨b', o', hA, _, hc⟩ := h.2.2 (by simp [vi] at hl; omega)
  injection hA with hA; injection hA with h1 h2
  subst h1 h2
  exact hc k _ (by simp [vi, hx])
def fieldRank (l : List Pt) (id n d : Int) : Int × Int := if (fieldOrder l n d).2 ≠ 0 then (0, (fieldOrder l n d).2) else if ixI (fieldOrder l n d).1 id < 0 then (0, 6) else (ixI (fieldOrder l n d).1 id, 0)
end Go.Pel
namespace Go.Proofs.YtpojhcjdcbegiaaGreat
open Go.RowKit Go.Pel
end Go.Proofs.YtpojhcjdcbegiaaGreat

namespace Go
open RowKit
section
variable {P : Program} {ops : Array Oper} {o : Oper} {a : Act} {K : Act → World → Prop} {Q : Exit → Act → World → Prop} {E : Prop}
theorem stepg_append_any {t e : TypeId} {z : Value} {size bytes : Nat} (hT : SlT P t e z size bytes) {wB W0 W1 W : World} (hb : Bel wB W)
    {A : Option Addr} {n c : Nat} {xs : List Value} (hown : Own W0 wB.heap.size e size A n c xs) (hb0 : Bel W0 W)
    {A1 : Option Addr} {m c' : Nat} {news : List Value} (hsrc : Sl W1 size A1 m c' news) (hb1 : Bel W1 W) (h1 : ∀ u ∈ news, u.oneCell' = true) (hnil : A1 = none → c' = 0) (hlen : n + m ≤ 4294967296)
    (hw : Region.wanted o (yielded ops a.tmps) = true) (s x : Operand) (ho : o.op = .call { callee := .builtin .append, args := #[s, x], argTypes := #[t, t] })
    (hs : a.eval s = .slice A n c) (hx : a.eval x = .slice A1 m c')
    (h : ∀ A' c'' y, Own (ext wB y) wB.heap.size e size A' (n + m) c'' (xs ++ news) → K (a.put o.dst (.slice A' (n + m) c'')) (ext wB y)) :
    if Region.wanted o (yielded ops a.tmps) = true then Oper.wp P o a W K Q else E := by
  rw [if_pos hw]
  exact oper_append_any hT hb hown hb0 hsrc hb1 h1 hnil hlen s x ho hs hx h
theorem stepg_append_new {t e : TypeId} {z : Value} {size bytes : Nat} (hT : SlT P t e z size bytes) {wB W1 W V : World} (hb : Bel wB W) (hV : Bel (W.alloc (.cells #[] e)) V)
    {A1 : Option Addr} {m c' : Nat} {news : List Value} (hsrc : Sl W1 size A1 m c' news) (hb1 : Bel W1 V) (h1 : ∀ u ∈ news, u.oneCell' = true) (hnil : A1 = none → c' = 0) (hlen : m ≤ 4294967296)
    (hw : Region.wanted o (yielded ops a.tmps) = true) (s x : Operand) (ho : o.op = .call { callee := .builtin .append, args := #[s, x], argTypes := #[t, t] }) {g : Nat}
    (hs : a.eval s = .slice (some ⟨g, 0, none⟩) 0 0) (hx : a.eval x = .slice A1 m c') (hg : g = W.heap.size)
    (h : ∀ A' c'' y, Own (ext wB y) wB.heap.size e size A' m c'' news → K (a.put o.dst (.slice A' m c'')) (ext wB y)) :
    if Region.wanted o (yielded ops a.tmps) = true then Oper.wp P o a V K Q else E := by
  have hbv : Bel wB V := Bel.trans (hb.alloc _) hV
  refine stepg_append_any hT hbv (own_new hb #[] e size 0 g hg (Nat.zero_le _) (by simp)) hV hsrc hb1 h1 hnil (by omega) hw s x ho hs hx fun A' c'' y hown => ?_
  rw [Nat.zero_add] at hown ⊢
  exact h A' c'' y hown
end
end Go

namespace Go
open RowKit
structure Box (W : World) (b : Nat) (cs : Array Value) : Prop where
  lt : b < W.heap.size
  eq : ∀ (j : Nat) (v : Value), cs[j]? = some v → W.cell? ⟨b, j, none⟩ = some v
  fr : ∀ (j : Nat), W.frozen? ⟨b, j, none⟩ = false
theorem Box.bel {W W' : World} {b : Nat} {cs : Array Value} (h : Box W b cs) (hb : Bel W W') : Box W' b cs := by
  obtain ⟨x, rfl⟩ := ext_of hb
  exact ⟨by rw [size_ext]; have := h.lt; omega, fun j v hv => by rw [cell_ext _ _ _ _ h.lt]; exact h.eq j v hv, fun j => by rw [frozen_ext _ _ _ _ h.lt]; exact h.fr j⟩
theorem Box.new {W W' : World} {cs : Array Value} {e : TypeId} (hb : Bel (W.alloc (.cells cs e)) W') {b : Nat} (hbk : b = W.heap.size) : Box W' b cs := by
  subst hbk
  have h : Box (W.alloc (.cells cs e)) W.heap.size cs := ⟨by simp, fun j v hv => by simp [go_sem, hv], fun j => by simp [go_sem]⟩
  exact h.bel hb
theorem own_row {W W' : World} {cs : Array Value} {e : TypeId} {size n : Nat} (hb : Bel (W.alloc (.cells cs e)) W') {b : Nat} (hbk : b = W.heap.size) (hn : n ≤ 1000000) (hs : cs.size = n * size) : Own W' b e size (some ⟨b, 0, none⟩) n n cs.toList := by
  subst hbk
  have h : Own (W.alloc (.cells cs e)) W.heap.size e size (some ⟨W.heap.size, 0, none⟩) n n cs.toList := World.ownsRow_lit W cs n (Nat.le_refl _) (Nat.le_trans hn (by unfold maxLen; decide)) hs
  exact h.bel hb
end Go

namespace Go
end Go

namespace Go
open RowKit
/-- where a row lies: at block g, or from block n on -/
def Lo (A : Option Addr) (g n : Nat) : Prop := ∀ k, A = some ⟨k, 0, none⟩ → k = g ∨ n ≤ k
/-- an empty literal of the call lies at g -/
def NewLit (V : World) (e : TypeId) (g : Nat) : Prop := ∃ W : World, Bel (W.alloc (.cells #[] e)) V ∧ g = W.heap.size
theorem NewLit.here {W : World} {e : TypeId} {g : Nat} (h : g = W.heap.size) : NewLit (W.alloc (.cells #[] e)) e g := ⟨W, Bel.refl _, h⟩
theorem NewLit.alloc {W : World} {e : TypeId} {g : Nat} {o : Obj} (h : NewLit W e g) : NewLit (W.alloc o) e g := by obtain ⟨W0, h1, h2⟩ := h; exact ⟨W0, h1.alloc _, h2⟩
theorem NewLit.ext {W : World} {e : TypeId} {g : Nat} {x : Beyond} (h : NewLit W e g) : NewLit (ext W x) e g := by obtain ⟨W0, h1, h2⟩ := h; exact ⟨W0, h1.ext _, h2⟩
theorem NewLit.drew {W : World} {e : TypeId} {g : Nat} (h : NewLit W e g) : NewLit W.drew e g := by obtain ⟨W0, h1, h2⟩ := h; exact ⟨W0, h1.drew, h2⟩
def RowsApart (A B : Option Addr) : Prop := ∀ k, A = some ⟨k, 0, none⟩ → B = some ⟨k, 0, none⟩ → False
theorem own_lt {w : World} {base : Nat} {e : TypeId} {size n c k : Nat} {xs : List Value} (h : Own w base e size (some ⟨k, 0, none⟩) n c xs) : k < w.heap.size := by
  rcases h.block with h0 | ⟨g, h0, _, h2⟩
  · cases h0
  · injection h0 with h0
    rw [show k = g from h0]; exact h2
theorem own_ge {w : World} {base : Nat} {e : TypeId} {size n c k : Nat} {xs : List Value} (h : Own w base e size (some ⟨k, 0, none⟩) n c xs) : base ≤ k := by
  rcases h.block with h0 | ⟨g, h0, h1, _⟩
  · cases h0
  · injection h0 with h0
    rw [show k = g from h0]; exact h1
theorem RowsApart.symm {A B : Option Addr} (h : RowsApart A B) : RowsApart B A := fun k h1 h2 => h k h2 h1
theorem apart_ge {w : World} {base : Nat} {e : TypeId} {size n c : Nat} {A B : Option Addr} {xs : List Value} (h : Own w base e size A n c xs) (hB : ∀ k, B = some ⟨k, 0, none⟩ → k < base) : RowsApart A B := by
  intro k h1 h2
  subst h1
  have := own_ge h
  have := hB k h2
  omega
/-- W' is over V' what W is over V, and V' is as great as V. -/
structure Swp (V V' W W' : World) : Prop where
  base : V.heap.size = V'.heap.size
  size : W.heap.size = W'.heap.size
  hi : ∀ k, V.heap.size ≤ k → W'.heap[k]? = W.heap[k]?
theorem Swp.refl {V V' : World} (h : V.heap.size = V'.heap.size) : Swp V V' V V' := ⟨h, h, fun k hk => by rw [Array.getElem?_eq_none hk, Array.getElem?_eq_none (by omega)]⟩
theorem Swp.ext {V V' W W' : World} (h : Swp V V' W W') (x : Beyond) : Swp V V' (ext W x) (ext W' x) := by
  refine ⟨h.base, by simp [h.size], fun k hk => ?_⟩
  have e1 : (Go.ext W x).heap = W.heap ++ x.objs := by unfold Go.ext; rfl
  have e2 : (Go.ext W' x).heap = W'.heap ++ x.objs := by unfold Go.ext; rfl
  rw [e1, e2]
  rcases Nat.lt_or_ge k W.heap.size with hl | hl
  · rw [Array.getElem?_append_left hl, Array.getElem?_append_left (by have := h.size; omega)]; exact h.hi k hk
  · rw [Array.getElem?_append_right hl, Array.getElem?_append_right (by have := h.size; omega), h.size]
theorem Swp.alloc {V V' W W' : World} (h : Swp V V' W W') (o : Obj) : Swp V V' (W.alloc o) (W'.alloc o) := by
  refine ⟨h.base, by simp [h.size], fun k hk => ?_⟩
  have e1 : (W.alloc o).heap = W.heap.push o := by unfold World.alloc; rfl
  have e2 : (W'.alloc o).heap = W'.heap.push o := by unfold World.alloc; rfl
  rw [e1, e2, Array.getElem?_push, Array.getElem?_push, h.hi k hk, h.size]
theorem Swp.drew {V V' W W' : World} (h : Swp V V' W W') : Swp V V' W.drew W'.drew := ⟨h.base, h.size, h.hi⟩
theorem pheap_ext (W : World) (x : Beyond) : (ext W x).heap = W.heap ++ x.objs := by unfold ext; rfl
theorem pheap_drew (W : World) : W.drew.heap = W.heap := rfl
theorem pheap_alloc (W : World) (o : Obj) : (W.alloc o).heap = W.heap ++ #[o] := by unfold World.alloc; simp
theorem objs_and (x y : Beyond) : (x.and y).objs = x.objs ++ y.objs := rfl
theorem objs_drewN (x : Beyond) (n : Nat) : (x.drewN n).objs = x.objs := rfl
/-- the blocks of W are the first ones of W' -/
def Pre (W W' : World) : Prop := ∃ r, W'.heap = W.heap ++ r
theorem pre_append {a b c : Array Obj} (h : ∃ r, a = b ++ r) : ∃ r, a ++ c = b ++ r := by
  obtain ⟨r, rfl⟩ := h
  exact ⟨r ++ c, by rw [Array.append_assoc]⟩
theorem pre_refl (a : Array Obj) : ∃ r, a = a ++ r := ⟨#[], by simp⟩
theorem own_pre {W W' : World} {base : Nat} {e : TypeId} {size n c : Nat} {A : Option Addr} {xs : List Value} (h : Own W base e size A n c xs) (hp : Pre W W') : Own W' base e size A n c xs := by
  obtain ⟨h1, h2⟩ := h
  obtain ⟨r, hr⟩ := hp
  refine ⟨h1, ?_⟩
  rcases h2 with h2 | ⟨g, cap, cur, hv', hg, hh, r'⟩
  · exact .inl h2
  · have hl : g < W.heap.size := by rcases Nat.lt_or_ge g W.heap.size with h | h; exact h; rw [Array.getElem?_eq_none h] at hh; cases hh
    exact .inr ⟨g, cap, cur, hv', hg, by rw [hr, Array.getElem?_append_left hl]; exact hh, r'⟩
theorem own_move {V V' W W1 W2 : World} {base : Nat} {e : TypeId} {size n c : Nat} {A : Option Addr} {xs : List Value} (h : Own W base e size A n c xs) (hs : Swp V V' W W1) (hb : Pre W1 W2) (hv : V.heap.size ≤ base) : Own W2 base e size A n c xs := by
  have h1 : Own W1 base e size A n c xs := by
    obtain ⟨h1, h2⟩ := h
    refine ⟨h1, ?_⟩
    rcases h2 with h2 | ⟨g, cap, cur, hv', hg, hh, r⟩
    · exact .inl h2
    · exact .inr ⟨g, cap, cur, hv', hg, by rw [hs.hi g (by omega)]; exact hh, r⟩
  exact own_pre h1 hb
theorem Box.here {W : World} {cs : Array Value} {e : TypeId} {b : Nat} (hb : b = W.heap.size) : Box (W.alloc (.cells cs e)) b cs := Box.new (Bel.refl _) hb
theorem Box.alloc {W : World} {cs : Array Value} {b : Nat} {o : Obj} (h : Box W b cs) : Box (W.alloc o) b cs := h.bel ((Bel.refl _).alloc _)
theorem Box.ext {W : World} {cs : Array Value} {b : Nat} {x : Beyond} (h : Box W b cs) : Box (ext W x) b cs := h.bel (bel_ext _ _)
theorem Box.drew {W : World} {cs : Array Value} {b : Nat} (h : Box W b cs) : Box W.drew b cs := h.bel (Bel.refl _).drew
theorem Own.here {W : World} {base : Nat} {cs : Array Value} {e : TypeId} {size n b : Nat} (hbk : b = W.heap.size) (hb : base ≤ b) (hn : n ≤ 1000000) (hs : cs.size = n * size) : Own (W.alloc (.cells cs e)) base e size (some ⟨b, 0, none⟩) n n cs.toList := by
  subst hbk
  exact World.ownsRow_lit W cs n hb (Nat.le_trans hn (by unfold maxLen; decide)) hs
theorem Own.alloc' {W : World} {base : Nat} {xs : List Value} {e : TypeId} {size n c : Nat} {A : Option Addr} {o : Obj} (h : Own W base e size A n c xs) : Own (W.alloc o) base e size A n c xs := h.alloc o
theorem Own.ext' {W : World} {base : Nat} {xs : List Value} {e : TypeId} {size n c : Nat} {A : Option Addr} {x : Beyond} (h : Own W base e size A n c xs) : Own (Go.ext W x) base e size A n c xs := h.ext x
theorem Own.drew' {W : World} {base : Nat} {xs : List Value} {e : TypeId} {size n c : Nat} {A : Option Addr} (h : Own W base e size A n c xs) : Own W.drew base e size A n c xs := h.bel (Bel.refl _).drew
/-- two heaps agree but at block g -/
def PBut (g : Nat) (a b : Array Obj) : Prop := ∀ k, k ≠ g → k < a.size → b[k]? = a[k]?
def PSame (g : Nat) (a b : Array Obj) : Prop := a.size = b.size ∧ ∀ k, k ≠ g → b[k]? = a[k]?
theorem PSame.refl (g : Nat) (a : Array Obj) : PSame g a a := ⟨rfl, fun _ _ => rfl⟩
theorem PSame.both {g : Nat} {a b : Array Obj} (h : PSame g a b) (c : Array Obj) : PSame g (a ++ c) (b ++ c) := by
  refine ⟨by simp [h.1], fun k hk => ?_⟩
  rcases Nat.lt_or_ge k a.size with hl | hl
  · rw [Array.getElem?_append_left hl, Array.getElem?_append_left (by have := h.1; omega)]; exact h.2 k hk
  · rw [Array.getElem?_append_right hl, Array.getElem?_append_right (by have := h.1; omega), h.1]
theorem PSame.swap {g : Nat} {a b : Array Obj} {o o' : Obj} (h : PSame g a b) (hg : g = a.size) : PSame g (a ++ #[o]) (b ++ #[o']) := by
  refine ⟨by simp [h.1], fun k hk => ?_⟩
  rcases Nat.lt_or_ge k a.size with hl | hl
  · rw [Array.getElem?_append_left hl, Array.getElem?_append_left (by have := h.1; omega)]; exact h.2 k hk
  · have hs := h.1
    have h1 : a.size + 1 ≤ k := by omega
    rw [Array.getElem?_eq_none (by first | simpa using h1 | (rw [hs] at h1; simpa using h1)), Array.getElem?_eq_none (by first | simpa using h1 | (rw [hs] at h1; simpa using h1))]
theorem PBut.same {g : Nat} {a b : Array Obj} (h : PSame g a b) : PBut g a b := fun k hk _ => h.2 k hk
theorem PBut.le {g : Nat} {a b : Array Obj} (h : PBut g a b) {k : Nat} (hk : k ≠ g) (hl : k < a.size) : k < b.size := by
  have h1 := h k hk hl
  rcases Nat.lt_or_ge k b.size with h2 | h2
  · exact h2
  · rw [Array.getElem?_eq_none h2, Array.getElem?_eq_getElem hl] at h1; cases h1
theorem PBut.right {g : Nat} {a b : Array Obj} (h : PBut g a b) (c : Array Obj) : PBut g a (b ++ c) := fun k hk hl => by
  rw [Array.getElem?_append_left (h.le hk hl)]; exact h k hk hl
theorem own_but {W W' : World} {base g : Nat} {e : TypeId} {size n c : Nat} {A : Option Addr} {xs : List Value} (h : Own W base e size A n c xs) (hA : ∀ q, A = some ⟨q, 0, none⟩ → q ≠ g) (hp : PBut g W.heap W'.heap) : Own W' base e size A n c xs := by
  obtain ⟨h1, h2⟩ := h
  refine ⟨h1, ?_⟩
  rcases h2 with h2 | ⟨q, cap, cur, hv', hq, hh, r'⟩
  · exact .inl h2
  · have hl : q < W.heap.size := by rcases Nat.lt_or_ge q W.heap.size with h | h; exact h; rw [Array.getElem?_eq_none h] at hh; cases hh
    have hne : q ≠ g := hA q (by injection hv')
    exact .inr ⟨q, cap, cur, hv', hq, by rw [hp q hne hl]; exact hh, r'⟩
theorem own_ne {W W' : World} {base b g : Nat} {e : TypeId} {size n c : Nat} {A : Option Addr} {xs : List Value} (h : Own W base e size A n c xs) (hA : ∀ q, A = some ⟨q, 0, none⟩ → q ≠ b ∧ q ≠ g) (hp : PBut g W.heap W'.heap) : Own W' base e size A n c xs ∧ ∀ q, A = some ⟨q, 0, none⟩ → q ≠ b ∧ q ≠ g := ⟨own_but h (fun q hq => (hA q hq).2) hp, hA⟩
theorem heap_other {W : World} {b g o : Nat} {u : Value} (hne : b ≠ g) : (W.setCell ⟨b, o, none⟩ u).heap[g]? = W.heap[g]? := by
  unfold World.setCell
  simp only [Array.getElem?_modify, if_neg hne]
theorem Box.other {W : World} {b g : Nat} {cs : Array Value} (h : Box W g cs) (o : Nat) (u : Value) (hne : b ≠ g) : Box (W.setCell ⟨b, o, none⟩ u) g cs := by
  refine ⟨by have := h.lt; simpa using this, fun j v hv => ?_, fun j => ?_⟩
  · rw [← h.eq j v hv]; exact World.cell?_of_block (heap_other hne)
  · rw [← h.fr j]; exact World.frozen?_of_block (heap_other hne)
theorem own_others {W : World} {B n c b size : Nat} {e : TypeId} {xs : List Value} {A : Option Addr} (h : Own W B e size A n c xs) (o : Nat) (u : Value) (hne : ∀ q, A = some ⟨q, 0, none⟩ → q ≠ b) : Own (W.setCell ⟨b, o, none⟩ u) B e size A n c xs :=
  own_other h u (fun g hg he => hne g hg he.symm)
theorem own2_ret {w W : World} {b1 b2 : Nat} {e1 e2 : TypeId} {s1 s2 n1 n2 c1 c2 : Nat} {A B : Option Addr} {xs ys : List Value} (hb : Bel w W) (h1 : Own W b1 e1 s1 A n1 c1 xs) (l1 : w.heap.size ≤ b1) (h2 : Own W b2 e2 s2 B n2 c2 ys) (l2 : w.heap.size ≤ b2) (ha : RowsApart A B) :
    ∃ x, W = ext w x ∧ Own (ext w x) w.heap.size e1 s1 A n1 c1 xs ∧ Own (ext w x) w.heap.size e2 s2 B n2 c2 ys ∧ RowsApart A B := by
  obtain ⟨x, rfl⟩ := ext_of hb
  exact ⟨x, rfl, h1.base_le l1, h2.base_le l2, ha⟩
section
variable {P : Program} {ops : Array Oper} {o : Oper} {a : Act} {K : Act → World → Prop} {Q : Exit → Act → World → Prop} {E : Prop}
/-- append of a row with an address onto an empty literal is as onto nothing -/
theorem run_append_lit {w : World} (t ty e : TypeId) (i : TypeInfo) (z : Value) (ht : P.underlying t = some (.slice e)) (hi : P.info? e = some i) (hz : i.zero = some z) (b ad : Addr) (m c : Nat) (news : List Value)
    (hl : news.length = m * i.size) (hnews : ∀ j v, news[j]? = some v → w.cell? (ad.add j) = some v) (hm : 0 < m) (h63 : (m : Int) ≤ 9223372036854775807) (hfit : Builtin.nextslicecap m 0 * i.bytes ≤ 281474976710656) :
    (Builtin.append_ #[t, t] ty #[.slice (some b) 0 0, .slice (some ad) m c]).run P w = .ok (.slice (some ⟨w.heap.size, 0, none⟩) m (grownCap w m 0 e)) (w.drew.alloc (.cells (news.toArray ++ Builtin.zeroCells z.cells (grownCap w m 0 e - m)) e)) := by
  have h := run_append_grow (P := P) w t ty e i z ht hi hz b 0 0 [] (by simp) (by simp) ad m c news hl hnews (by omega) (by omega) (by simpa using hfit)
  simpa using h
theorem stepg_append_fresh {t e : TypeId} {z : Value} {size bytes : Nat} (hT : SlT P t e z size bytes) {V W1 : World}
    {A1 : Option Addr} {m c' : Nat} {news : List Value} (hsrc : Sl W1 size A1 m c' news) (hb1 : Bel W1 V) (h1 : ∀ u ∈ news, u.oneCell' = true) (hnil : A1 = none → c' = 0) (hlen : m ≤ 1000000)
    (hw : Region.wanted o (yielded ops a.tmps) = true) (s x : Operand) (ho : o.op = .call { callee := .builtin .append, args := #[s, x], argTypes := #[t, t] }) {g : Nat}
    (hs : a.eval s = .slice (some ⟨g, 0, none⟩) 0 0) (hx : a.eval x = .slice A1 m c') (hL : NewLit V e g)
    (h : ∀ A' c'' y, Own (ext V y) g e size A' m c'' news → Lo A' g V.heap.size → K (a.put o.dst (.slice A' m c'')) (ext V y)) :
    if Region.wanted o (yielded ops a.tmps) = true then Oper.wp P o a V K Q else E := by
  obtain ⟨W, hV, hg⟩ := hL
  have hgv : g < V.heap.size := by have := hV.le; simp at this; omega
  rcases Nat.eq_zero_or_pos m with rfl | hm
  · have hn : news = [] := List.eq_nil_of_length_eq_zero (by simpa using hsrc.len)
    subst hn
    have hown : Own V g e size (some ⟨g, 0, none⟩) 0 0 [] := by
      subst hg
      have h0 : Own (W.alloc (.cells #[] e)) W.heap.size e size (some ⟨W.heap.size, 0, none⟩) 0 0 [] := World.ownsRow_lit W #[] 0 (Nat.le_refl _) (Nat.zero_le _) (by simp)
      exact h0.bel hV
    obtain ⟨i, hi, hz0, hz1, hz2⟩ := info_parts hT.info
    rw [if_pos hw]
    have hr : (Builtin.append_ #[t, t] o.type #[.slice (some ⟨g, 0, none⟩) 0 0, .slice A1 0 c']).run P V = .ok (.slice (some ⟨g, 0, none⟩) 0 0) V := by
      cases A1 with
      | none => obtain rfl := hnil rfl; simp [Builtin.append_, run_underlying hT.und, sizeOf, typeInfo, hi, Builtin.lenOf, Builtin.firstCells, storeCells]
      | some ad => simp [Builtin.append_, run_underlying hT.und, sizeOf, typeInfo, hi, Builtin.lenOf, Builtin.firstCells, storeCells, loadCells, loadCellsFrom]
    unfold Oper.wp execOp
    simp only [ho, resolve, invoke, builtin, Sem.run_bind, Sem.run_pure, Result.andThen_ok, List.map_toArray, List.map_cons, List.map_nil, hs, hx, hr]
    obtain ⟨y, hy⟩ := ext_of (Bel.refl V)
    have h' := h (some ⟨g, 0, none⟩) 0 y (by rw [← hy]; exact hown) (fun k hk => .inl (by injection hk with hk; injection hk with hk; omega))
    rw [← hy] at h'
    exact h'
  · obtain ⟨b, off, rfl, hbl⟩ := hsrc.at_ hm
    replace hsrc := hsrc.bel hb1
    obtain ⟨i, hi, hz0, hz1, hz2⟩ := info_parts hT.info
    rw [if_pos hw]
    have hnews : ∀ j v, news[j]? = some v → V.cell? ((⟨b, off, none⟩ : Addr).add j) = some v := by
      intro j u hu
      have hj := hsrc.cell hu
      unfold Addr.add
      split
      · rename_i h0; rw [h0] at hj; exact hj
      · exact hj
    have hby : m * bytes ≤ 140737488355328 := Nat.le_trans (Nat.mul_le_mul hlen hT.small) (by decide)
    have hr := run_append_lit (P := P) (w := V) t o.type e i z hT.und hi hz0 ⟨g, 0, none⟩ ⟨b, off, none⟩ m c' news (by rw [hz1]; exact hsrc.len) hnews hm (by omega) (growslice_fits hm (by rw [hz2]; exact hby))
    unfold Oper.wp execOp
    simp only [ho, resolve, invoke, builtin, Sem.run_bind, Sem.run_pure, Result.andThen_ok, List.map_toArray, List.map_cons, List.map_nil, hs, hx, hr]
    obtain ⟨y, hy⟩ := ext_of ((Bel.refl V).drew.alloc (.cells (news.toArray ++ Builtin.zeroCells z.cells (grownCap V m 0 e - m)) e))
    rw [hy]
    refine h _ _ _ ?_ (fun k hk => .inr (by injection hk with hk; injection hk with hk; omega))
    rw [← hy]
    have hge := grownCap_ge V m 0 e
    have hcm : grownCap V m 0 e ≤ maxLen := grownCap_le_maxLen V m 0 e (Nat.le_trans hlen (by unfold maxLen; decide))
    refine ⟨hsrc.len, .inr ⟨V.heap.size, _, _, rfl, by omega, heap_alloc_new V.drew _, hge, hcm, ?_, ?_⟩⟩
    · simp only [Array.size_append, List.size_toArray, size_zeroCells, hT.zs, hsrc.len, ← Nat.add_mul]
      congr 1
      omega
    · simp only [Array.toList_append]
      rw [← hsrc.len]
      exact List.take_left
theorem stepg_make {t e : TypeId} {z : Value} {size bytes : Nat} (hT : SlT P t e z size bytes) {V : World} {kl kc : IntKind} {k : Nat} (hlen : k ≤ 1000000)
    (hw : Region.wanted o (yielded ops a.tmps) = true) (l c : Operand) (ho : o.op = .makeSlice t l c) (hl : a.eval l = .int kl k) (hc : a.eval c = .int kc k)
    (h : ∀ cs : Array Value, cs.toList = (List.replicate k z.cells.toList).flatten → K (a.put o.dst (.slice (some ⟨V.heap.size, 0, none⟩) k k)) (V.alloc (.cells cs e))) :
    if Region.wanted o (yielded ops a.tmps) = true then Oper.wp P o a V K Q else E := by
  obtain ⟨i, hi, hz0, hz1, hz2⟩ := info_parts hT.info
  rw [if_pos hw]
  have hby : i.bytes * k ≤ 281474976710656 := by rw [hz2, Nat.mul_comm]; exact Nat.le_trans (Nat.mul_le_mul hlen hT.small) (by decide)
  have hby' : (i.bytes : Int) * (k : Int) ≤ 281474976710656 := by rw [← Int.natCast_mul]; omega
  have hr := run_make (P := P) V t e i z hT.und hi hz0 kl kc (k : Int) (k : Int) (by omega) (Int.le_refl _) hby' (by omega)
  unfold Oper.wp
  simp only [execOp, ho, hl, hc, Sem.run_bind, Sem.run_pure, hr, Result.andThen_ok, Int.toNat_natCast]
  refine h _ ?_
  rw [hz1, ← hT.zs]
  exact made_mul z.cells k (by rw [hT.zs]; exact hT.pos)
end
end Go

namespace Go
open RowKit
/-- a loop's record, or its deferred calls: no cells -/
def NoCells (o : Obj) : Prop := ∀ cs e f, o ≠ .cells cs e f
theorem noCells_loop (r : Loop) : NoCells (.loop r) := fun _ _ _ h => by cases h
theorem noCells_deferred (r : Option (List Deferred)) : NoCells (.deferred r) := fun _ _ _ h => by cases h
/-- blocks that are no cells, from b on, lie as they lay -/
structure Records (b : Nat) (W W' : World) : Prop where
  keep : ∀ (k : Nat) (o : Obj), b ≤ k → W.heap[k]? = some o → NoCells o → W'.heap[k]? = some o
theorem Records.refl (b : Nat) (W : World) : Records b W W := ⟨fun _ _ _ h _ => h⟩
theorem Records.trans {b : Nat} {A B D : World} (h : Records b A B) (k : Records b B D) : Records b A D := ⟨fun i o hb h1 h2 => k.keep i o hb (h.keep i o hb h1 h2) h2⟩
theorem Records.bel {b : Nat} {A B : World} (h : Bel A B) : Records b A B := ⟨fun k o _ h1 _ => by
  have hl : k < A.heap.size := (Array.getElem?_eq_some_iff.1 h1).1
  rw [h.block k hl]; exact h1⟩
section
variable {F : Fence} {n : Nat} {P : Program}
theorem callsIn_round {f : Nat} {args : Array Value} {w : World} {R : Ending → World → Prop} (l : Nat) (h : CallsIn F n P f args w R) : CallsIn (F.inRound l) n P f args w R := h
theorem calls_round {f : Nat} {args : Array Value} {w : World} {R : Ending → World → Prop} (l m : Nat) (h : Calls P f args w R) : CallsIn (Fence.wide.inRound l) m P f args w R := callsIn_round l (callsIn_wide.2 h)
/-- an iterator's value that gives the elements of xs; between two rounds it takes the world along C (its own cells); a round keeps Kp. -/
def SeqAll {α : Type} (F : Fence) (n : Nat) (P : Program) (g : Nat) (lb : Array Value) (encs : α → Array Value) (C Kp : World → World → Prop) (xs : List α) (w : World) : Prop :=
  ∀ (l : Nat) (J : List α → World → Prop) (W : World), Below w.heap.size w W → (∀ s A B, J s A → C A B → J s B) →
    (∀ pre x rest A, xs = pre ++ x :: rest → J pre A → YieldAt F (n - 1) P l (encs x) A fun e B => e = .returned (.bool true) ∧ J (pre ++ [x]) B ∧ Kp A B) →
    J [] W → CallsIn F n P g (#[.func (.yield l) #[] #[]] ++ lb) W fun e B => (∃ v, e = .returned v) ∧ J xs B
theorem wpIn_range_all {α : Type} {g : Operand} {ps : Array Tmp} {assign body : Code} {Q : Exit → Act → World → Prop} {a : Act} {w : World}
    (hro : F.round = none) (h1 : 1 ≤ n) {gf : Nat} {lb : Array Value} (hg : a.eval g = .func (.func gf) #[] lb) (hFg : F.fn gf) (eg : ∀ args w, (callFunc gf args).run P w = .ok (.enter gf args) w)
    {encs : α → Array Value} {C Kp : World → World → Prop} {xs : List α} (hseq : SeqAll F (n - 1) P gf lb encs C Kp xs w)
    (hC : ∀ A B, C A B → ∀ k, w.heap.size ≤ k → B.heap[k]? = A.heap[k]?)
    (hKt : ∀ {A B D : World}, Kp A B → Kp B D → Kp A D) (hKb : ∀ (W : World) (l : Nat) (o : Obj), w.heap.size ≤ l → Kp W (W.putObj l o)) (hps : ∀ x, (encs x).size = ps.size)
    (I : List α → World → Prop) (hIC : ∀ s A B, I s A → C A B → I s B)
    (hIp : ∀ s (A : World) (l : Nat) (o o' : Obj), I s A → w.heap.size ≤ l → A.heap[l]? = some o → NoCells o → I s (A.putObj l o'))
    (hIa : ∀ s (A : World) (o : Obj), I s A → I s (A.alloc o)) (h0 : I [] w) (a₁ : α → Act)
    (hassign : ∀ (l : Nat) (x : α) (W : World) (K : Act → World → Prop), K (a₁ x) W →
      assign.wpIn (F.inRound l) (n - 1 - 1) P (Exit.then K (fun _ _ _ => False)) { tmps := (ps.zip (encs x)).foldl (fun t (p, v) => t.setIfInBounds p v) a.tmps, defers := [] } W)
    (hbody : ∀ (l : Nat) (pre : List α) (x : α) (rest : List α) (W : World), xs = pre ++ x :: rest → I pre W →
      body.wpIn (F.inRound l) (n - 1 - 1) P (fun e _ W' => e = .normal ∧ Records w.heap.size W W' ∧ Kp W W' ∧ I (pre ++ [x]) W') (a₁ x) W)
    (hdone : ∀ (D : Nat) (W : World), w.heap.size ≤ D → I xs W → W.heap[D]? = some (.deferred (some [])) → Q .normal { a with defers := { target := .collected D, args := #[] } :: a.defers } W) :
    (Code.rangeFunc g ps assign body).wpIn F n P Q a w := by
  refine wpIn_rangeFunc ?_
  intro fn hfn
  rw [hro]
  -- the record in each of its states, and the world in which it has just been laid
  obtain ⟨rc, hrc⟩ : ∃ rc : LoopState → Loop, rc = fun st => { state := st, pending := none, fn, tmps := a.tmps, params := ps, assign, body, defers := w.heap.size } := ⟨_, rfl⟩
  obtain ⟨V, hV⟩ : ∃ V, (w.alloc (.deferred (some []))).alloc (.loop (rc .ready)) = V := ⟨_, rfl⟩
  have vl : V.heap[w.heap.size + 1]? = some (.loop (rc .ready)) := by
    have := World.alloc_heap_new (w.alloc (.deferred (some []))) (.loop (rc .ready))
    rw [World.size_alloc] at this
    rw [← hV]; exact this
  have vd : V.heap[w.heap.size]? = some (.deferred (some [])) := by
    rw [← hV]; exact (Below.heap_alloc _ _ _ (by simp)).trans (World.alloc_heap_new w _)
  have vb : Below w.heap.size w V := by rw [← hV]; exact ((Below.refl _ w).alloc (Nat.le_refl _) _).alloc (by simp) _
  have vI : I [] V := by rw [← hV]; exact hIa _ _ _ (hIa _ _ _ h0)
  refine ⟨w.heap.size + 1, [{ target := .collected w.heap.size, args := #[] }], V, { target := .fn (.func gf) lb, args := #[.func (.yield (w.heap.size + 1)) #[] #[]] }, V, gf,
    #[.func (.yield (w.heap.size + 1)) #[] #[]] ++ lb, V, ?_, ?_, ?_, ?_, fun _ => h1, ?_⟩
  · rw [← hV, hrc]; exact run_enterLoop_outer _ _ _ _ _
  · simp only [resolve, hg]
    simp [go_sem]
  · intro f hf; simp [Target.leads] at hf; rw [← hf]; exact hFg
  · simp [invoke, go_sem, eg]
  · refine (hseq (w.heap.size + 1) (fun pre W => I pre W ∧ W.heap[w.heap.size + 1]? = some (.loop (rc .ready)) ∧ W.heap[w.heap.size]? = some (.deferred (some []))) V vb
      (fun s A B h hAB => ⟨hIC s A B h.1 hAB, (hC A B hAB _ (by omega)).trans h.2.1, (hC A B hAB _ (Nat.le_refl _)).trans h.2.2⟩) ?_ ⟨vI, vl, vd⟩).mono ?_
    · rintro pre x rest W hxs ⟨hi, hl, hk⟩
      have hlt : w.heap.size + 1 < W.heap.size := (Array.getElem?_eq_some_iff.1 hl).1
      have hy := run_yield (P := P) (args := encs x) hl (by rw [hrc]; exact hps x)
      rw [hrc] at hy
      refine ⟨fn, _, assign, body, hy, roundIn_of_wpIn hfn (hassign _ x W _ ⟨_, run_beginRound hl (by rw [hrc]), ?_⟩)⟩
      obtain ⟨U, hU⟩ : ∃ U, W.putObj (w.heap.size + 1) (.loop { rc .ready with state := .busy }) = U := ⟨_, rfl⟩
      rw [hU]
      have ul : U.heap[w.heap.size + 1]? = some (.loop { rc .ready with state := .busy }) := by rw [← hU]; exact World.putObj_heap_same hlt
      have ud : U.heap[w.heap.size]? = some (.deferred (some [])) := by rw [← hU]; exact (World.putObj_heap_other (by omega)).trans hk
      have uK : Kp W U := by rw [← hU]; exact hKb _ _ _ (by omega)
      have uI : I pre U := by rw [← hU]; exact hIp _ _ _ _ _ hi (by omega) hl (noCells_loop _)
      refine wpIn_mono (hbody _ pre x rest U hxs uI) ?_
      rintro e a3 Z ⟨rfl, zk, zK, zI⟩
      have zl := zk.keep _ _ (by omega) ul (noCells_loop _)
      have zd := zk.keep _ _ (Nat.le_refl _) ud (noCells_deferred _)
      have hr := run_endRound (P := P) none zl
      rw [hrc] at hr
      refine ⟨_, _, hr, rfl, ⟨hIp _ _ _ _ _ zI (by omega) zl (noCells_loop _), ?_, ?_⟩, hKt (hKt uK zK) (hKb _ _ _ (by omega))⟩
      · rw [hrc]; exact World.putObj_heap_same (Array.getElem?_eq_some_iff.1 zl).1
      · exact (World.putObj_heap_other (by omega)).trans zd
    · rintro e Z ⟨⟨v, rfl⟩, zI, zl, zd⟩
      have he := run_endLoop (P := P) zl (by rw [hrc]; simp)
      rw [hrc] at he
      exact ⟨none, _, he, hdone _ _ (Nat.le_refl _) (hIp _ _ _ _ _ zI (by omega) zl (noCells_loop _)) ((World.putObj_heap_other (by omega)).trans zd)⟩
end
end Go

namespace Go
namespace RegC
section
variable {P : Program} {ops : Array Oper} {md : Region.Mode} {Q : Exit → Act → World → Prop} {l n : Nat}
def noDefer (ops : Array Oper) : Bool := ops.all fun o => match o.op with | .defer _ => false | _ => true
theorem noDefer_at {i : Nat} {o : Oper} (h : noDefer ops = true) (ho : ops[i]? = some o) : ∀ c, o.op ≠ .defer c := by
  intro c hc
  unfold noDefer at h
  have hi := (Array.getElem?_eq_some_iff.1 ho)
  obtain ⟨hi, he⟩ := hi
  have := Array.all_eq_true.1 h i hi
  rw [he, hc] at this
  cases this
theorem oper_in {o : Oper} {a : Act} {w : World} {K : Act → World → Prop} (hd : ∀ c, o.op ≠ .defer c) (h : Oper.wp P o a w K Q) : Oper.wpIn (Fence.wide.inRound l) n P o a w K Q := by
  refine ⟨fun _ _ => trivial, ?_⟩
  rw [Oper.semAt_plain (Fence.wide.inRound l) _ _ hd]
  unfold Oper.wp at h
  cases hr : (execOp a.eval o).run P w with
  | ok x w' =>
    rw [hr] at h
    cases x with
    | value v => exact h
    | skip => exact h
    | defer d => exact h
    | enter f args => exact ⟨fun hh => by simp [Fence.wide] at hh, callsIn_round l (callsIn_wide.2 h)⟩
    | row row args => exact ⟨fun hh => by simp [Fence.wide] at hh, fun c cs _ => by obtain ⟨v, w', r, s⟩ := h c cs; exact ⟨v, w', r, stepsIn_wide.2 s⟩⟩
    | _ => exact h.elim
  | halt x w' =>
    rw [hr] at h
    cases x <;> exact h
theorem op_in (hnd : noDefer ops = true) (hL : ¬ LetsOut Q) {i : Nat} {K K' : Act → World → Prop} {a : Act} {w : World} (hK : ∀ a w, K a w → K' a w) (h : wpOp P ops Q i K a w) : wpOpIn (Fence.wide.inRound l) n P ops Q i K' a w := by
  unfold wpOp at h
  unfold wpOpIn
  cases ho : ops[i]? with
  | none => rw [ho] at h; exact hK _ _ h
  | some o =>
    rw [ho] at h
    simp only at h ⊢
    split
    · rename_i hw
      rw [if_pos hw] at h
      rcases h with h | h
      · exact Oper.wpIn_mono hK (oper_in (noDefer_at hnd ho) h)
      · exact absurd h.2 hL
    · rename_i hw
      rw [if_neg hw] at h
      exact ⟨fun _ _ => trivial, hK _ _ h⟩
theorem any_in (hnd : noDefer ops = true) (hL : ¬ LetsOut Q) : ∀ (fuel : Nat) (li : Array Bool) (a : Act) (w : World), wpAny P md ops Q fuel li a w → wpAnyIn (Fence.wide.inRound l) n P md ops Q fuel li a w := by
  intro fuel
  induction fuel with
  | zero => exact fun _ _ _ h => h
  | succ fuel ih => exact fun li a w h => ⟨h.1, fun i hi => op_in hnd hL (fun a w => ih _ a w) (h.2 i hi)⟩
end
section
variable {P : Program} {C : World → Prop} {l n : Nat}
/-- The head in any order, in the class; then the tail in order: in a round. -/
theorem wpIn_region_class_tail {id : Nat} {Q : Exit → Act → World → Prop} {a : Act} {w : World} {L : List Oper} (k : Nat) (hL : ¬ LetsOut Q) (hnd : noDefer L.toArray = true) (hm : P.follows .mixedOrders = true) (hB : Region.lexTailB .any L.toArray k = true)
    (hC : C { w with drawn := w.drawn + 1 })
    (h : wpQuiet P L.toArray C (fun a' => ∀ w', C w' → wpList P L.toArray Q (L.drop k) a' w') (L.take k) a) : (Code.region id L.toArray true).wpIn (Fence.wide.inRound l) n P Q a w := by
  simp only [Region.lexTailB, Bool.and_eq_true, decide_eq_true_eq] at hB
  obtain ⟨⟨⟨⟨hsel, hn⟩, hs⟩, hc⟩, hlex⟩ := hB
  have hn' : k < L.length := by simpa using hn
  have htl : (L.take k).length = k := by simp; omega
  have hdl : (L.drop k).length = L.toArray.size - k := by simp
  have inv0 : HeadInv .any L.toArray k (Array.replicate L.toArray.size false) :=
    ⟨by simp, fun j oj _ hl => (by rw [getD_replicate_false] at hl; cases hl), fun t _ ht => getD_in (by simpa using ht) (getD_replicate_false _ _)⟩
  have H := anyC_lex (C := C) (md := .any) (g := L.toArray.size - k) hsel hs hc hn (L.take k) 0 _ a (fun j hj => by
    have hj' : j < k := by rw [htl] at hj; exact hj
    simp [hj']) (by simpa using htl) inv0 (by rw [htl]; exact hlex) h
  refine wpIn_region_any hm (any_in hnd hL _ _ _ _ ?_)
  have := anyC_run (Q' := Q) (g := L.toArray.size - k) (fun li a' w' hw' hL => by
    have := wpAny_of_seq (md := .any) (Q' := Q) (L.drop k) k li a' w' (fun j => by simp [List.getElem?_drop]) (by rw [hdl]; exact hL.1) (hL.2 w' hw')
    rwa [hdl] at this) _ _ _ _ hC H
  rw [htl, show k + (L.toArray.size - k) = L.toArray.size from by omega] at this
  exact this
end
end RegC
end Go

namespace Go.Tx
open Go Go.RegC
/-- temporaries that keep their values -/
def KT (V : Nat → Value → Prop) (a : Act) : Prop := ∀ n v, V n v → a.tmps[n]? = some v
theorem kt_put {V : Nat → Value → Prop} {a : Act} {dst : Option Tmp} (hd : ∀ n v, V n v → dst ≠ some n) (h : KT V a) (v : Value) : KT V (a.put dst v) := fun n u hu => by
  cases dst with
  | none => exact h n u hu
  | some d =>
    have hne : d ≠ n := fun he => hd n u hu (by rw [he])
    show (a.tmps.setIfInBounds d v)[n]? = some u
    rw [Array.getElem?_setIfInBounds_ne hne]; exact h n u hu
def QK (V : Nat → Value → Prop) (Q : Exit → Act → World → Prop) (e : Exit) (a : Act) (w : World) : Prop := Q e a w ∧ (e = .normal → KT V a)
section
variable {P : Program} {V : Nat → Value → Prop} {Q : Exit → Act → World → Prop} {ops : Array Oper}
theorem oper_keep {o : Oper} {a : Act} {w : World} {K : Act → World → Prop} (hd : ∀ n v, V n v → o.dst ≠ some n) (ht : KT V a) (h : o.wp P a w K Q) : o.wp P a w (fun a w => K a w ∧ KT V a) (QK V Q) := by
  unfold Oper.wp at *
  generalize (execOp a.eval o).run P w = r at *
  cases r with
  | ok n w' =>
    cases n <;> simp only [Oper.upon] at h ⊢
    case value v => exact ⟨h, kt_put hd ht v⟩
    case skip => exact ⟨h, kt_put hd ht _⟩
    case defer d => exact ⟨h, kt_put (a := { a with defers := d :: a.defers }) hd ht _⟩
    case enter f args =>
      refine Calls.mono h fun e w'' he => ?_
      cases e with
      | returned v => exact ⟨he, kt_put hd ht v⟩
      | panicked c => exact ⟨he, fun h => by cases h⟩
      | outgrown => obtain ⟨a2, w2, h2⟩ := he; exact ⟨a2, w2, h2, fun h => by cases h⟩
    case row row args => exact Rows.mono h fun v w'' he => ⟨he, kt_put hd ht v⟩
  | halt x w' =>
    cases x <;> simp only [Oper.upon] at h ⊢
    exact ⟨h, fun h => by cases h⟩
theorem list_keep : ∀ (l : List Oper), (∀ o ∈ l, ∀ n v, V n v → o.dst ≠ some n) → ∀ (a : Act) (w : World), KT V a → wpList P ops Q l a w → wpList P ops (QK V Q) l a w
  | [], _, a, w, ht, h => ⟨h, fun _ => ht⟩
  | o :: l, hd, a, w, ht, h => by
    have ih := list_keep l fun o ho => hd o (List.mem_cons_of_mem _ ho)
    have h0 := hd o (List.mem_cons_self ..)
    change (if Region.wanted o (yielded ops a.tmps) then _ else _)
    change (if Region.wanted o (yielded ops a.tmps) then _ else _) at h
    split
    · rename_i hw
      rw [if_pos hw] at h
      rcases h with h | h
      · exact .inl (Oper.wp_mono (fun a w hk => ih a w hk.2 hk.1) (oper_keep h0 ht h))
      · obtain ⟨a2, w2, h3⟩ := h.2
        exact .inr ⟨h.1, a2, w2, h3, fun h => by cases h⟩
    · rename_i hw
      rw [if_neg hw] at h
      exact ih _ _ (kt_put h0 ht _) h
theorem any_keep {md : Region.Mode} (hd : ∀ (i : Nat) (o : Oper), ops[i]? = some o → ∀ n v, V n v → o.dst ≠ some n) : ∀ (f : Nat) (li : Array Bool) (a : Act) (w : World), KT V a → wpAny P md ops Q f li a w → wpAny P md ops (QK V Q) f li a w := by
  intro f
  induction f with
  | zero => intro li a w ht h; exact ⟨h.1, h.2, fun _ => ht⟩
  | succ f ih =>
    intro li a w ht h
    refine ⟨fun hr => ⟨h.1 hr, fun _ => ht⟩, fun i hi => ?_⟩
    have h2 := h.2 i hi
    unfold wpOp at h2 ⊢
    cases ho : ops[i]? with
    | none => rw [ho] at h2; exact ih _ _ _ ht h2
    | some o =>
      rw [ho] at h2
      simp only at h2 ⊢
      split
      · rename_i hw
        rw [if_pos hw] at h2
        rcases h2 with h2 | h2
        · exact .inl (Oper.wp_mono (fun a w hk => ih _ a w hk.2 hk.1) (oper_keep (hd i o ho) ht h2))
        · obtain ⟨a2, w2, h3⟩ := h2.2
          exact .inr ⟨h2.1, a2, w2, h3, fun h => by cases h⟩
      · rename_i hw
        rw [if_neg hw] at h2
        exact ih _ _ _ (kt_put (hd i o ho) ht _) h2
/-- no operation writes these temporaries -/
def dstB (ns : List Nat) (ops : Array Oper) : Bool := ops.toList.all fun o => match o.dst with | some d => !memB ns d | none => true
theorem dstB_at {ns : List Nat} (h : dstB ns ops = true) (hV : ∀ n v, V n v → n ∈ ns) {o : Oper} (ho : o ∈ ops.toList) : ∀ n v, V n v → o.dst ≠ some n := fun n v hn he => by
  unfold dstB at h
  have h1 := List.all_eq_true.1 h o ho
  rw [he] at h1
  simp only at h1
  rw [memB_iff.2 (hV n v hn)] at h1
  cases h1
theorem list_in {l n : Nat} (hL : ¬ LetsOut Q) : ∀ (L : List Oper), (∀ o ∈ L, ∀ c, o.op ≠ .defer c) → ∀ (a : Act) (w : World), wpList P ops Q L a w → wpListIn (Fence.wide.inRound l) n P ops Q L a w
  | [], _, a, w, h => h
  | o :: L, hd, a, w, h => by
    have ih := list_in (l := l) (n := n) hL L fun o ho => hd o (List.mem_cons_of_mem _ ho)
    change (if Region.wanted o (yielded ops a.tmps) then _ else _)
    change (if Region.wanted o (yielded ops a.tmps) then _ else _) at h
    split
    · rename_i hw
      rw [if_pos hw] at h
      rcases h with h | h
      · exact Oper.wpIn_mono (fun a w => ih a w) (oper_in (hd o (List.mem_cons_self ..)) h)
      · exact absurd h.2 hL
    · rename_i hw
      rw [if_neg hw] at h
      exact ⟨fun _ _ => trivial, ih _ _ h⟩
theorem rw_in {l n id : Nat} {draw : Bool} {a : Act} {w : World} (hm : P.follows .mixedOrders = true) (hL : ¬ LetsOut Q) (hnd : noDefer ops = true) (h : RW P ops draw Q a w) : (Code.region id ops draw).wpIn (Fence.wide.inRound l) n P Q a w := by
  cases draw with
  | true => exact wpIn_region_any hm (any_in hnd hL _ _ _ _ h)
  | false =>
    refine wpIn_region_list (list_in hL _ (fun o ho => ?_) _ _ h)
    obtain ⟨i, hi⟩ := List.getElem?_of_mem ho
    exact noDefer_at hnd (i := i) (o := o) (by rw [← hi, Array.getElem?_toList])
theorem rw_keep {draw : Bool} {a : Act} {w : World} {ns : List Nat} (hV : ∀ n v, V n v → n ∈ ns) (hd : dstB ns ops = true) (ht : KT V a) (h : RW P ops draw Q a w) : RW P ops draw (QK V Q) a w := by
  cases draw with
  | true => exact any_keep (fun i o ho => dstB_at hd hV (List.mem_of_getElem? (i := i) (by rw [Array.getElem?_toList]; exact ho))) _ _ _ _ ht h
  | false => exact list_keep _ (fun o ho => dstB_at hd hV ho) _ _ ht h
end
section
variable {P : Program} {T : Tys} {C : Orc} {N l : Nat} {V : Nat → Value → Prop} {w0 : World} {φ0 : Fz0} {Q : Exit → Act → World → Prop}
/-- code in a round -/
def RunI (l : Nat) (P : Program) (V : Nat → Value → Prop) (w0 : World) (φ0 : Fz0) (N : Nat) (c : Code) (s : St) (Q : Exit → Act → World → Prop) : Prop := ∀ a w, SS w0 φ0 N s a w → KT V a → c.wpIn (Fence.wide.inRound l) 0 P Q a w
def CnI (V : Nat → Value → Prop) (w0 : World) (φ0 : Fz0) (N : Nat) (s : St) (Q : Exit → Act → World → Prop) (e : Exit) : Prop := ∀ a w, SS w0 φ0 N s a w → KT V a → Q e a w
theorem cnI_then {c : Code} {s : St} (h : RunI l P V w0 φ0 N c s Q) : CnI V w0 φ0 N s (Exit.then (c.wpIn (Fence.wide.inRound l) 0 P Q) Q) .normal := h
theorem cnI_blk {s : St} {i : Nat} (h : CnI V w0 φ0 N s Q .normal) : CnI V w0 φ0 N s (Exit.inBlock i Q) .normal := h
theorem cnI_sco {s : St} (h : CnI V w0 φ0 N s Q .normal) : CnI V w0 φ0 N s (Exit.noGoto Q) .normal := h
theorem cnI_then_exit {s : St} {K : Act → World → Prop} {i : Nat} (h : CnI V w0 φ0 N s Q (.exit i)) : CnI V w0 φ0 N s (Exit.then K Q) (.exit i) := h
theorem cnI_blk_eq {s : St} {i : Nat} (h : CnI V w0 φ0 N s Q .normal) : CnI V w0 φ0 N s (Exit.inBlock i Q) (.exit i) := fun a w hs hv => by
  show (if i = i then Q .normal a w else Q (.exit i) a w)
  rw [if_pos rfl]; exact h a w hs hv
theorem cnI_blk_ne {s : St} {i j : Nat} (hij : Nat.beq j i = false) (h : CnI V w0 φ0 N s Q (.exit j)) : CnI V w0 φ0 N s (Exit.inBlock i Q) (.exit j) := fun a w hs hv => by
  show (if j = i then Q .normal a w else Q (.exit j) a w)
  rw [if_neg (Nat.ne_of_beq_eq_false hij)]; exact h a w hs hv
theorem cnI_sco_exit {s : St} {i : Nat} (h : CnI V w0 φ0 N s Q (.exit i)) : CnI V w0 φ0 N s (Exit.noGoto Q) (.exit i) := h
theorem runI_skip {s : St} (h : CnI V w0 φ0 N s Q .normal) : RunI l P V w0 φ0 N .skip s Q := fun a w hs hv => wpIn_skip (h a w hs hv)
theorem runI_label {s : St} {k : Nat} (h : CnI V w0 φ0 N s Q .normal) : RunI l P V w0 φ0 N (.label k) s Q := fun a w hs hv => wpIn_label (h a w hs hv)
theorem runI_exit {s : St} {i : Nat} (h : CnI V w0 φ0 N s Q (.exit i)) : RunI l P V w0 φ0 N (.exit i) s Q := fun a w hs hv => wpIn_exit (h a w hs hv)
theorem runI_seq {x y : Code} {s : St} (h : RunI l P V w0 φ0 N x s (Exit.then (y.wpIn (Fence.wide.inRound l) 0 P Q) Q)) : RunI l P V w0 φ0 N (.seq x y) s Q := fun a w hs hv => wpIn_seq (h a w hs hv)
theorem runI_block {c : Code} {s : St} {i : Nat} (h : RunI l P V w0 φ0 N c s (Exit.inBlock i Q)) : RunI l P V w0 φ0 N (.block i c) s Q := fun a w hs hv => wpIn_block (h a w hs hv)
theorem runI_join {R X : Type} {r : R} {F : X → Option R} {S : X → St} {x y : Code} {s : St} (hj : ∀ z, F z = some r → RunI l P V w0 φ0 N y (S z) Q) (h : (∀ z, F z = some r → CnI V w0 φ0 N (S z) (Exit.then (y.wpIn (Fence.wide.inRound l) 0 P Q) Q) .normal) → RunI l P V w0 φ0 N x s (Exit.then (y.wpIn (Fence.wide.inRound l) 0 P Q) Q)) : RunI l P V w0 φ0 N (.seq x y) s Q := runI_seq (h hj)
theorem runI_cond {R : Type} {r : R} {v : Bool} {A B : Option R} {c : Operand} {x y : Code} {s : St} (hc : stev s c = .bool v) (h : (bif v then A else B) = some r) (ht : A = some r → RunI l P V w0 φ0 N x s Q) (hf : B = some r → RunI l P V w0 φ0 N y s Q) : RunI l P V w0 φ0 N (.cond c x y) s Q := fun a w hs hv => by
  obtain ⟨η, h1, _⟩ := hs.sr
  have hx := xev_ok (h1 0).tr c
  rw [show xev (memOf s.tm .lf) c = .bool v from hc] at hx
  have hcv : a.eval c = .bool v := by
    generalize a.eval c = u at hx
    cases hx; rfl
  refine wpIn_cond hcv ?_
  cases v with
  | true => exact ht h a w hs hv
  | false => exact hf h a w hs hv
theorem runI_reg (hm : P.follows .mixedOrders = true) (hT : TysOK P T) (hC : OrcOK P C) {ns : List Nat} (hV : ∀ n v, V n v → n ∈ ns) {R Y : Type} {r : R} {rid : Nat} {ops : Array Oper} {draw : Bool} {keep : List (Nat × Kd)} {s : St} {t : Dt Y} {S : Y → St} {K : Y → Option R}
    (hd : dstB ns ops = true) (hnd : noDefer ops = true) (hreg : treg T C N ops draw keep s some = t.eval fun y => some (S y)) (h : t.eval K = some r) (hk : ∀ y, K y = some r → CnI V w0 φ0 N (S y) Q .normal) : RunI l P V w0 φ0 N (.region rid ops draw) s Q := by
  obtain ⟨y, h1, h2⟩ := t.one h
  rw [h2] at hreg
  obtain ⟨s', h3, h4⟩ := reg_rw (D := φ0.D) hm hT hC hreg
  injection h3 with h3; subst h3
  intro a w hs hv
  have h5 := h4 w0 φ0 a w (fun e a w => e = .normal ∧ SS w0 φ0 N (S y) a w) rfl hs fun a' w' h => ⟨rfl, h⟩
  have h6 := rw_in (l := l) (n := 0) (id := rid) hm (by rintro ⟨a2, w2, h2⟩; cases h2.1.1) hnd (rw_keep hV hd hv h5)
  refine wpIn_mono h6 fun e a' w' ⟨⟨he, h7⟩, h8⟩ => ?_
  subst he
  exact hk y h1 a' w' h7 (h8 rfl)
end
/-- another block b alone -/
structure OnlyB (b : Nat) (A B : World) : Prop where
  size : B.heap.size = A.heap.size
  same : ∀ k, k ≠ b → B.heap[k]? = A.heap[k]?
  os : B.os = A.os
  tape : B.tape = A.tape
  output : B.output = A.output
  drawn : B.drawn = A.drawn
theorem OnlyB.put (A : World) (b : Nat) (o : Obj) : OnlyB b A (A.putObj b o) := ⟨by rw [World.putObj_size], fun k hk => World.putObj_heap_other hk, rfl, rfl, rfl, rfl⟩
theorem HR.only {M : Nat} {η : Emb} {H : LH} {A B : World} {b : Nat} (h : HR M η H A) (hb : OnlyB b A B) (hl : ¬ LB H η b) (hf : η.fz b = none) : HR M η H B where
  dom := h.dom
  lt := h.lt
  live k ob hk := (h.live k ob hk).move (Emb.le_refl _) rfl (Nat.le_of_eq hb.size.symm) fun L hL => hb.same _ fun he => hl ⟨k, ob, L, hk, hL, he⟩
  inj := h.inj
  fz k ob hk := by rw [hb.same k fun he => by rw [he, hf] at hk; cases hk]; exact h.fz k ob hk
  sep := h.sep
  ok := h.ok
theorem Fr.only {w0 : World} {φ0 : Fz0} {H : LH} {η : Emb} {A B : World} {b : Nat} (h : Fr w0 φ0 H η A) (hb : OnlyB b A B) (h0 : w0.heap.size ≤ b) (hk : ∀ o, ¬ φ0.K b o) : Fr w0 φ0 H η B where
  size := by rw [hb.size]; exact h.size
  same k hlt := (hb.same k (by omega)).trans (h.same k hlt)
  lb := h.lb
  fz0 := h.fz0
  fzn := h.fzn
  os := hb.os.trans h.os
  tape := hb.tape.trans h.tape
  output := hb.output.trans h.output
  drawn := by rw [hb.drawn]; exact h.drawn
  kp k o ho := by
    obtain ⟨h1, h2, h3⟩ := h.kp k o ho
    exact ⟨(hb.same k fun he => hk o (by rw [← he]; exact ho)).trans h1, h2, h3⟩
section
open Go.RowKit
variable {F : Fence} {n : Nat} {P : Program}
/-- what an iterator does: it writes the block b, and lays new ones, that nobody else touches -/
def SeqT {α : Type} (F : Fence) (n : Nat) (P : Program) (g : Nat) (lb : Array Value) (encs : α → Array Value) (b : Nat) (Kp : World → World → Prop) (xs : List α) (w : World) : Prop :=
  ∀ (l : Nat) (J : (Nat → Prop) → List α → World → Prop) (W : World), Below w.heap.size w W → (∀ T s A B, J T s A → OnlyB b A B → J T s B) →
    (∀ T s A B, J T s A → Bel A B → J (fun k => T k ∨ (A.heap.size ≤ k ∧ k < B.heap.size)) s B) →
    (∀ T pre x rest A, xs = pre ++ x :: rest → J T pre A → YieldAt F (n - 1) P l (encs x) A fun e B => e = .returned (.bool true) ∧ J T (pre ++ [x]) B ∧ Kp A B ∧ ∀ k, T k → B.heap[k]? = A.heap[k]?) →
    J (fun _ => False) [] W → CallsIn F n P g (#[.func (.yield l) #[] #[]] ++ lb) W fun e B => (∃ v, e = .returned v) ∧ ∃ T, J T xs B
/-- a range over a function, where a round keeps its record and its deferred calls -/
theorem wpIn_range_rec {α : Type} {g : Operand} {ps : Array Tmp} {assign body : Code} {Q : Exit → Act → World → Prop} {a : Act} {w : World}
    (hro : F.round = none) (h1 : 1 ≤ n) {gf : Nat} {lb : Array Value} (hg : a.eval g = .func (.func gf) #[] lb) (hFg : F.fn gf) (eg : ∀ args w, (callFunc gf args).run P w = .ok (.enter gf args) w)
    {encs : α → Array Value} {kb : Nat} {Kp : World → World → Prop} {xs : List α} (hseq : SeqT F (n - 1) P gf lb encs kb Kp xs w) (hkb : kb < w.heap.size)
    (hKt : ∀ {A B D : World}, Kp A B → Kp B D → Kp A D) (hKb : ∀ (W : World) (o : Obj), Kp W (W.putObj (w.heap.size + 1) o)) (hps : ∀ x, (encs x).size = ps.size)
    (I : (Nat → Prop) → List α → World → Prop) (hIC : ∀ T s A B, I T s A → OnlyB kb A B → I T s B) (hIB : ∀ T s A B, I T s A → Bel A B → I (fun k => T k ∨ (A.heap.size ≤ k ∧ k < B.heap.size)) s B)
    (hIp : ∀ T s (A : World) (o : Obj), I T s A → w.heap.size + 1 < A.heap.size → I T s (A.putObj (w.heap.size + 1) o)) (hT : ∀ T s A k, I T s A → T k → k ≠ w.heap.size + 1)
    (h0 : ∀ r, I (fun _ => False) [] ((w.alloc (.deferred (some []))).alloc (.loop r)))
    (hround : ∀ (l : Nat) (T : Nat → Prop) (pre : List α) (x : α) (rest : List α) (W : World) (o o' : Obj), xs = pre ++ x :: rest → I T pre W → W.heap[w.heap.size + 1]? = some o → W.heap[w.heap.size]? = some o' →
      assign.wpIn (F.inRound l) (n - 1 - 1) P (Exit.then (fun a1 W1 => W1.heap[w.heap.size + 1]? = some o ∧ Kp W W1 ∧ (∀ k, T k → W1.heap[k]? = W.heap[k]?) ∧ ∀ o2,
        body.wpIn (F.inRound l) (n - 1 - 1) P (fun e _ W' => e = .normal ∧ W'.heap[w.heap.size + 1]? = some o2 ∧ W'.heap[w.heap.size]? = some o' ∧ Kp (W1.putObj (w.heap.size + 1) o2) W' ∧ (∀ k, T k → W'.heap[k]? = W1.heap[k]?) ∧ I T (pre ++ [x]) W') a1 (W1.putObj (w.heap.size + 1) o2)) (fun _ _ _ => False))
        { tmps := (ps.zip (encs x)).foldl (fun t (p, v) => t.setIfInBounds p v) a.tmps, defers := [] } W)
    (hdone : ∀ (T : Nat → Prop) (W : World), I T xs W → W.heap[w.heap.size]? = some (.deferred (some [])) → Q .normal { a with defers := { target := .collected w.heap.size, args := #[] } :: a.defers } W) :
    (Code.rangeFunc g ps assign body).wpIn F n P Q a w := by
  refine wpIn_rangeFunc ?_
  intro fn hfn
  rw [hro]
  obtain ⟨rc, hrc⟩ : ∃ rc : LoopState → Loop, rc = fun st => { state := st, pending := none, fn, tmps := a.tmps, params := ps, assign, body, defers := w.heap.size } := ⟨_, rfl⟩
  obtain ⟨V, hV⟩ : ∃ V, (w.alloc (.deferred (some []))).alloc (.loop (rc .ready)) = V := ⟨_, rfl⟩
  have vl : V.heap[w.heap.size + 1]? = some (.loop (rc .ready)) := by
    have := World.alloc_heap_new (w.alloc (.deferred (some []))) (.loop (rc .ready))
    rw [World.size_alloc] at this
    rw [← hV]; exact this
  have vd : V.heap[w.heap.size]? = some (.deferred (some [])) := by
    rw [← hV]; exact (Below.heap_alloc _ _ _ (by simp)).trans (World.alloc_heap_new w _)
  have vb : Below w.heap.size w V := by rw [← hV]; exact ((Below.refl _ w).alloc (Nat.le_refl _) _).alloc (by simp) _
  have vI : I (fun _ => False) [] V := by rw [← hV]; exact h0 _
  refine ⟨w.heap.size + 1, [{ target := .collected w.heap.size, args := #[] }], V, { target := .fn (.func gf) lb, args := #[.func (.yield (w.heap.size + 1)) #[] #[]] }, V, gf,
    #[.func (.yield (w.heap.size + 1)) #[] #[]] ++ lb, V, ?_, ?_, ?_, ?_, fun _ => h1, ?_⟩
  · rw [← hV, hrc]; exact run_enterLoop_outer _ _ _ _ _
  · simp only [resolve, hg]
    simp [go_sem]
  · intro f hf; simp [Target.leads] at hf; rw [← hf]; exact hFg
  · simp [invoke, go_sem, eg]
  · refine (hseq (w.heap.size + 1) (fun T pre W => I T pre W ∧ W.heap[w.heap.size + 1]? = some (.loop (rc .ready)) ∧ W.heap[w.heap.size]? = some (.deferred (some []))) V vb
      (fun T s A B h hAB => ⟨hIC T s A B h.1 hAB, (hAB.same _ (by omega)).trans h.2.1, (hAB.same _ (by omega)).trans h.2.2⟩)
      (fun T s A B h hAB => ⟨hIB T s A B h.1 hAB, (hAB.block _ (Array.getElem?_eq_some_iff.1 h.2.1).1).trans h.2.1, (hAB.block _ (Array.getElem?_eq_some_iff.1 h.2.2).1).trans h.2.2⟩) ?_ ⟨vI, vl, vd⟩).mono ?_
    · rintro T pre x rest W hxs ⟨hi, hl, hk⟩
      have hlt : w.heap.size + 1 < W.heap.size := (Array.getElem?_eq_some_iff.1 hl).1
      have hy := run_yield (P := P) (args := encs x) hl (by rw [hrc]; exact hps x)
      rw [hrc] at hy
      refine ⟨fn, _, assign, body, hy, roundIn_of_wpIn hfn (wpIn_mono (hround _ T pre x rest W _ _ hxs hi hl hk) ?_)⟩
      intro e a1 W1 hK
      have hn : e = .normal := by cases e <;> first | rfl | exact (show False from hK).elim
      subst hn
      obtain ⟨hl1, hK1, hT1, hb⟩ := hK
      refine ⟨_, run_beginRound hl1 (by rw [hrc]), ?_⟩
      refine wpIn_mono (hb _) ?_
      rintro e a3 Z ⟨rfl, zl, zd, zK, zT, zI⟩
      have hr := run_endRound (P := P) none zl
      rw [hrc] at hr
      have zlt : w.heap.size + 1 < Z.heap.size := (Array.getElem?_eq_some_iff.1 zl).1
      refine ⟨_, _, hr, rfl, ⟨hIp _ _ _ _ zI zlt, ?_, ?_⟩, hKt (hKt (hKt hK1 (hKb _ _)) zK) (hKb _ _), fun k hk => (World.putObj_heap_other (hT _ _ _ k hi hk)).trans ((zT k hk).trans (hT1 k hk))⟩
      · rw [hrc]; exact World.putObj_heap_same zlt
      · exact (World.putObj_heap_other (by omega)).trans zd
    · rintro e Z ⟨⟨v, rfl⟩, T, zI, zl, zd⟩
      have he := run_endLoop (P := P) zl (by rw [hrc]; simp)
      rw [hrc] at he
      exact ⟨none, _, he, hdone T _ (hIp _ _ _ _ zI (Array.getElem?_eq_some_iff.1 zl).1) ((World.putObj_heap_other (by omega)).trans zd)⟩
end
end Go.Tx

namespace Go.Tx
open Go
/-- rounds over a list -/
def loopF {α X : Type} (step : α → X → Option X) : List α → X → Option X
  | [], x => some x
  | a :: l, x => match step a x with | some y => loopF step l y | none => none
theorem loopF_append {α X : Type} (step : α → X → Option X) : ∀ (l : List α) (a : α) (m : List α) (x z : X), loopF step (l ++ a :: m) x = some z → ∃ y y', loopF step l x = some y ∧ step a y = some y' ∧ loopF step (l ++ [a]) x = some y'
  | [], a, m, x, z, h => by
    rw [List.nil_append, loopF] at h
    cases hs : step a x with
    | none => rw [hs] at h; cases h
    | some y' => exact ⟨x, y', rfl, hs, by rw [List.nil_append, loopF, hs]; rfl⟩
  | b :: l, a, m, x, z, h => by
    rw [List.cons_append, loopF] at h
    cases hs : step b x with
    | none => rw [hs] at h; cases h
    | some x1 =>
      rw [hs] at h
      obtain ⟨y, y', h1, h2, h3⟩ := loopF_append step l a m x1 z h
      exact ⟨y, y', by rw [loopF, hs]; exact h1, h2, by rw [List.cons_append, loopF, hs]; exact h3⟩
/-- a state between two rounds; blocks kb, r, r + 1 and those of T are none of its -/
def SX (w0 : World) (φ0 : Fz0) (tm : List (Nat × LV)) (ob : List Ob) (a : Act) (kb r : Nat) (T : Nat → Prop) (W : World) : Prop :=
  ∃ η, (∀ M, HR M η (heapOf ob) W) ∧ (∀ n l, (n, l) ∈ tm → ∃ v, a.tmps[n]? = some v ∧ VR η l v) ∧ Fr w0 φ0 (heapOf ob) η W ∧ (∀ k, k = kb ∨ k = r ∨ k = r + 1 ∨ T k → ¬ LB (heapOf ob) η k ∧ η.fz k = none) ∧ r + 1 < W.heap.size ∧ ∀ k, T k → r + 1 < k ∧ k < W.heap.size
theorem SX.only {w0 : World} {φ0 : Fz0} {tm : List (Nat × LV)} {ob : List Ob} {a : Act} {kb r b : Nat} {T : Nat → Prop} {A B : World} (h : SX w0 φ0 tm ob a kb r T A) (hb : OnlyB b A B) (hbb : b = kb ∨ b = r ∨ b = r + 1) (h0 : w0.heap.size ≤ b) (hk : ∀ o, ¬ φ0.K b o) : SX w0 φ0 tm ob a kb r T B := by
  obtain ⟨η, h1, h2, h3, h4, h5, h6⟩ := h
  obtain ⟨g1, g2⟩ := h4 b (hbb.imp id (Or.imp id .inl))
  exact ⟨η, fun M => (h1 M).only hb g1 g2, h2, h3.only hb h0 hk, h4, by rw [hb.size]; exact h5, fun k hk => by rw [hb.size]; exact h6 k hk⟩
theorem HR.grow {M : Nat} {η : Emb} {H : LH} {A B : World} (h : HR M η H A) (hb : Bel A B) : HR M η H B where
  dom := h.dom
  lt := h.lt
  live k ob hk := (h.live k ob hk).move (Emb.le_refl _) rfl hb.size fun L hL => hb.block _ ((h.live k ob hk).lt hL)
  inj := h.inj
  fz k ob hk := by rw [hb.block k (Array.getElem?_eq_some_iff.1 (h.fz k ob hk)).1]; exact h.fz k ob hk
  sep := h.sep
  ok := h.ok
theorem Fr.grow {w0 : World} {φ0 : Fz0} {H : LH} {η : Emb} {A B : World} (h : Fr w0 φ0 H η A) (hb : Bel A B) : Fr w0 φ0 H η B where
  size := Nat.le_trans h.size hb.size
  same k hlt := (hb.block k (Nat.lt_of_lt_of_le hlt h.size)).trans (h.same k hlt)
  lb := h.lb
  fz0 := h.fz0
  fzn := h.fzn
  os := hb.os.trans h.os
  tape := hb.tape.trans h.tape
  output := hb.output.trans h.output
  drawn := Nat.le_trans h.drawn hb.mono
  kp k o ho := by
    obtain ⟨h1, h2, h3⟩ := h.kp k o ho
    exact ⟨(hb.block k (Array.getElem?_eq_some_iff.1 h1).1).trans h1, h2, h3⟩
theorem SX.grow {w0 : World} {φ0 : Fz0} {tm : List (Nat × LV)} {ob : List Ob} {a : Act} {kb r : Nat} {T : Nat → Prop} {A B : World} (h : SX w0 φ0 tm ob a kb r T A) (hb : Bel A B) : SX w0 φ0 tm ob a kb r (fun k => T k ∨ (A.heap.size ≤ k ∧ k < B.heap.size)) B := by
  obtain ⟨η, h1, h2, h3, h4, h5, h6⟩ := h
  refine ⟨η, fun M => (h1 M).grow hb, h2, h3.grow hb, fun k hk => ?_, Nat.lt_of_lt_of_le h5 hb.size, fun k hk => ?_⟩
  · rcases hk with hk | hk | hk | hk | ⟨hk, _⟩
    · exact h4 k (.inl hk)
    · exact h4 k (.inr (.inl hk))
    · exact h4 k (.inr (.inr (.inl hk)))
    · exact h4 k (.inr (.inr (.inr hk)))
    · refine ⟨fun ⟨j, ob', L, hj, hL, he⟩ => ?_, ?_⟩
      · have := ((h1 0).live j ob' hj).lt hL; omega
      · cases hf : η.fz k with
        | none => rfl
        | some o => have := (Array.getElem?_eq_some_iff.1 ((h1 0).fz k o hf)).1; omega
  · rcases hk with hk | ⟨hk, hk2⟩
    · obtain ⟨g1, g2⟩ := h6 k hk
      exact ⟨g1, Nat.lt_of_lt_of_le g2 hb.size⟩
    · exact ⟨by omega, hk2⟩
theorem wpIn_n {F : Fence} {P : Program} {c : Code} {Q : Exit → Act → World → Prop} {a : Act} {w : World} (hd : F.depth = none) {n m : Nat} (h : c.wpIn F n P Q a w) : c.wpIn F m P Q a w := fun b k cs hro hb _ => h b k cs hro hb fun d hd' => by rw [hd] at hd'; cases hd'
section
variable {P : Program} {N : Nat} {w0 : World} {φ0 : Fz0} {Q : Exit → Act → World → Prop}
/-- a round: what the assignments make of an element and a state, and the body of that -/
def step2 {α X Z : Type} (A : α → X → Option Z) (B : Z → Option X) (x : α) (y : X) : Option X := Option.bind (A x y) B
theorem range_core {α X Z : Type} {g : Operand} {ps : Array Tmp} {assign body : Code} {a : Act} {w : World} {gf kb : Nat} {lb : Array Value} {encs : α → Array Value} {xs : List α} {A : α → X → Option Z} {B : Z → Option X} {S1 : Z → St} {x0 z : X} {tmE : X → List (Nat × LV)} {keys : List Nat} {obs : X → List Ob} {xp : α → List (Nat × LV)} {ψ : Nat → Option Obj}
    (hkeys : ∀ y n l, (n, l) ∈ tmE y → n ∈ keys) (hg : a.eval g = .func (.func gf) #[] lb) (eg : ∀ args w, (callFunc gf args).run P w = .ok (.enter gf args) w)
    (hseq : SeqT Fence.wide 3 P gf lb encs kb (fun A B => B.heap[kb]? = A.heap[kb]? ∧ ∀ k ob, ψ k = some ob → A.heap[k]? = some ob → B.heap[k]? = some ob) xs w) (hkb : kb < w.heap.size) (hkb0 : w0.heap.size ≤ kb) (hkK : ∀ o, ¬ φ0.K kb o) (hps : ∀ x, (encs x).size = ps.size)
    (hD : φ0.D = a.defers)
    (hE : ∃ η, (∀ M, HR M η (heapOf (obs x0)) w) ∧ (∀ n l, (n, l) ∈ tmE x0 → ∃ v, a.tmps[n]? = some v ∧ VR η l v) ∧ Fr w0 φ0 (heapOf (obs x0)) η w ∧ ¬ LB (heapOf (obs x0)) η kb ∧ η.fz kb = none ∧ ∀ k ob, ψ k = some ob → η.fz k = some ob)
    (hxp : ∀ (x : α) (t : Array Value), N ≤ t.size → N ≤ ((ps.zip (encs x)).foldl (fun t (p, v) => t.setIfInBounds p v) t).size ∧ (∀ n l, (n, l) ∈ xp x → ∃ v, ((ps.zip (encs x)).foldl (fun t (p, v) => t.setIfInBounds p v) t)[n]? = some v ∧ ∀ η, VR η l v) ∧ ∀ n, n ∈ keys → ((ps.zip (encs x)).foldl (fun t (p, v) => t.setIfInBounds p v) t)[n]? = t[n]?)
    (hassign : ∀ (l : Nat) (V : Nat → Value → Prop) (φ' : Fz0) (Q : Exit → Act → World → Prop) x y z, A x y = some z → φ'.D = [] → (∀ n v, V n v → n ∈ keys) → CnI V w0 φ' N (S1 z) Q .normal → RunI l P V w0 φ' N assign ⟨xp x ++ tmE y, obs y⟩ Q)
    (hbody : ∀ (l : Nat) (V : Nat → Value → Prop) (φ' : Fz0) (Q : Exit → Act → World → Prop) z y', B z = some y' → φ'.D = [] → (∀ n v, V n v → n ∈ keys) → CnI V w0 φ' N ⟨tmE y', obs y'⟩ Q .normal → RunI l P V w0 φ' N body (S1 z) Q)
    (hz : loopF (step2 A B) xs x0 = some z)
    (hN : N ≤ a.tmps.size) (hkv : ∀ n, n ∈ keys → ∃ v, a.tmps[n]? = some v)
    (hk : ∀ a' W, SS w0 ⟨φ0.φ, fun k o => φ0.K k o ∨ (k = w.heap.size ∧ o = .deferred (some [])), ⟨.collected w.heap.size, #[]⟩ :: φ0.D⟩ N ⟨tmE z, obs z⟩ a' W → Q .normal a' W) :
    (Code.rangeFunc g ps assign body).wp P Q a w := by
  obtain ⟨η0, e1, e2, e3, e4, e5, e6⟩ := hE
  have e7 : Fr w0 ⟨η0.fz, φ0.K, φ0.D⟩ (heapOf (obs x0)) η0 w := ⟨e3.size, e3.same, e3.lb, fun _ _ h => h, fun _ _ h => .inl h, e3.os, e3.tape, e3.output, e3.drawn, e3.kp⟩
  have hKlt : ∀ k o, φ0.K k o → k < w.heap.size := fun k o h => (Array.getElem?_eq_some_iff.1 (e3.kp k o h).1).1
  have hsz := e3.size
  have hLlt : ∀ k, LB (heapOf (obs x0)) η0 k → k < w.heap.size := fun k ⟨b, ob, L, h1, h2, h3⟩ => by rw [← h3]; exact ((e1 0).live b ob h1).lt h2
  have hflt : ∀ k ob, η0.fz k = some ob → k < w.heap.size := fun k ob h => (Array.getElem?_eq_some_iff.1 ((e1 0).fz k ob h)).1
  have hnone : ∀ k, w.heap.size ≤ k → η0.fz k = none := fun k hk => by
    cases h : η0.fz k with
    | none => rfl
    | some ob => have := hflt k ob h; omega
  refine wpIn_wide.1 (wpIn_range_rec (F := Fence.wide) (n := 4) rfl (by decide) hg trivial eg hseq hkb (fun h k => ⟨k.1.trans h.1, fun j ob hj hA => k.2 j ob hj (h.2 j ob hj hA)⟩) (fun W o => ⟨World.putObj_heap_other (by omega), fun j ob hj hA => (World.putObj_heap_other (by have := hflt j ob (e6 j ob hj); omega)).trans hA⟩) hps
    (fun T pre W => ∃ y, loopF (step2 A B) pre x0 = some y ∧ SX w0 ⟨η0.fz, φ0.K, φ0.D⟩ (tmE y) (obs y) a kb w.heap.size T W)
    (fun T s A B ⟨y, h1, h2⟩ h => ⟨y, h1, h2.only h (.inl rfl) hkb0 hkK⟩) (fun T s A B ⟨y, h1, h2⟩ h => ⟨y, h1, h2.grow h⟩)
    (fun T s A o ⟨y, h1, h2⟩ hl => ⟨y, h1, h2.only (OnlyB.put A _ o) (.inr (.inr rfl)) (by omega) fun o h => by have := hKlt _ _ h; omega⟩)
    (fun T s A k ⟨y, h1, η, _, _, _, _, _, h6⟩ hk => by have := (h6 k hk).1; omega)
    ?_ ?_ ?_)
  · intro r
    refine ⟨x0, rfl, η0, fun M => ?_, e2, ?_, fun k hk => ?_, by simp, fun k hk => hk.elim⟩
    · exact (e1 M).grow (((Bel.refl w).alloc _).alloc _)
    · exact e7.grow (((Bel.refl w).alloc _).alloc _)
    · rcases hk with rfl | rfl | rfl | hk
      · exact ⟨e4, e5⟩
      · exact ⟨fun h => by have := hLlt _ h; omega, hnone _ (Nat.le_refl _)⟩
      · exact ⟨fun h => by have := hLlt _ h; omega, hnone _ (by omega)⟩
      · exact hk.elim
  · rintro l T pre x rest W o o' hxs ⟨y, hy, η, f1, f2, f3, f4, f5, f6⟩ hl hd
    obtain ⟨y1, y', g1, g2, g3⟩ := loopF_append (step2 A B) pre x rest x0 z (by rw [← hxs]; exact hz)
    rw [hy] at g1; injection g1 with g1; subst g1
    obtain ⟨z1, hA, hB⟩ := Option.bind_eq_some_iff.1 g2
    have hkW : kb < W.heap.size := by omega
    obtain ⟨q, hq⟩ : ∃ q, W.heap[kb]? = some q := ⟨_, Array.getElem?_eq_getElem hkW⟩
    obtain ⟨c1, c2, c3⟩ := hxp x a.tmps hN
    let φA : Obj → Fz0 := fun o => ⟨η0.fz, fun k u => φ0.K k u ∨ (k = kb ∧ u = q) ∨ (k = w.heap.size ∧ u = o') ∨ (k = w.heap.size + 1 ∧ u = o) ∨ (T k ∧ W.heap[k]? = some u), []⟩
    have hSS : SS w0 (φA o) N ⟨xp x ++ tmE y, obs y⟩ { tmps := (ps.zip (encs x)).foldl (fun t (p, v) => t.setIfInBounds p v) a.tmps, defers := [] } W := by
      refine ⟨⟨η, f1, fun n lv hn => ?_, ⟨f3.size, f3.same, f3.lb, f3.fz0, f3.fzn, f3.os, f3.tape, f3.output, f3.drawn, fun k u hu => ?_⟩⟩, c1, rfl⟩
      · rcases List.mem_append.1 hn with hn | hn
        · obtain ⟨v, v1, v2⟩ := c2 n lv hn
          exact ⟨v, v1, v2 η⟩
        · obtain ⟨u, u1, u2⟩ := f2 n lv hn
          exact ⟨u, (c3 n (hkeys y n lv hn)).trans u1, u2⟩
      · rcases hu with hu | ⟨rfl, rfl⟩ | ⟨rfl, rfl⟩ | ⟨rfl, rfl⟩ | ⟨hu, hu2⟩
        · exact f3.kp k u hu
        · exact ⟨hq, f4 k (.inl rfl)⟩
        · exact ⟨hd, f4 _ (.inr (.inl rfl))⟩
        · exact ⟨hl, f4 _ (.inr (.inr (.inl rfl)))⟩
        · exact ⟨hu2, f4 k (.inr (.inr (.inr hu)))⟩
    have hKT : KT (fun n v => n ∈ keys ∧ a.tmps[n]? = some v) { tmps := (ps.zip (encs x)).foldl (fun t (p, v) => t.setIfInBounds p v) a.tmps, defers := [] } := by
      rintro n v ⟨hn, hv⟩
      exact (c3 n hn).trans hv
    refine wpIn_n rfl (wpIn_mono (hassign l (fun n v => n ∈ keys ∧ a.tmps[n]? = some v) (φA o) (Exit.then (fun a1 W1 => SS w0 (φA o) N (S1 z1) a1 W1 ∧ KT (fun n v => n ∈ keys ∧ a.tmps[n]? = some v) a1) (fun _ _ _ => False)) x y z1 hA rfl (fun n v h => h.1) (fun a' W' hs hv => ⟨hs, hv⟩) _ W hSS hKT) ?_)
    intro e a1 W1 hK
    have hn : e = .normal := by cases e <;> first | rfl | exact (show False from hK).elim
    subst hn
    obtain ⟨hs1, hk1⟩ := hK
    obtain ⟨⟨η1, r1, r2, r3⟩, r4, r5⟩ := hs1
    obtain ⟨k1, k2, k3⟩ := r3.kp kb q (.inr (.inl ⟨rfl, rfl⟩))
    obtain ⟨k4, k5, k6⟩ := r3.kp w.heap.size o' (.inr (.inr (.inl ⟨rfl, rfl⟩)))
    obtain ⟨k7, k8, k9⟩ := r3.kp (w.heap.size + 1) o (.inr (.inr (.inr (.inl ⟨rfl, rfl⟩))))
    have kT : ∀ k, T k → W1.heap[k]? = W.heap[k]? ∧ ¬ LB (heapOf (S1 z1).ob) η1 k ∧ η1.fz k = none := fun k hk => by
      obtain ⟨u, hu⟩ : ∃ u, W.heap[k]? = some u := ⟨_, Array.getElem?_eq_getElem (f6 k hk).2⟩
      obtain ⟨s1, s2, s3⟩ := r3.kp k u (.inr (.inr (.inr (.inr ⟨hk, hu⟩))))
      exact ⟨s1.trans hu.symm, s2, s3⟩
    refine ⟨k7, ⟨k1.trans hq.symm, fun k ob hψ _ => (r1 0).fz k ob (r3.fz0 k ob (e6 k ob hψ))⟩, fun k hk => (kT k hk).1, fun o2 => ?_⟩
    have hlt1 : w.heap.size + 1 < W1.heap.size := (Array.getElem?_eq_some_iff.1 k7).1
    have hob := OnlyB.put W1 (w.heap.size + 1) o2
    have hSS2 : SS w0 (φA o2) N (S1 z1) a1 (W1.putObj (w.heap.size + 1) o2) := by
      refine ⟨⟨η1, fun M => (r1 M).only hob k8 k9, r2, ⟨by rw [hob.size]; exact r3.size, fun k hk => (hob.same k (by omega)).trans (r3.same k hk), r3.lb, r3.fz0, r3.fzn, hob.os.trans r3.os, hob.tape.trans r3.tape, hob.output.trans r3.output, by rw [hob.drawn]; exact r3.drawn, fun k u hu => ?_⟩⟩, r4, r5⟩
      rcases hu with hu | ⟨rfl, rfl⟩ | ⟨rfl, rfl⟩ | ⟨rfl, rfl⟩ | ⟨hu, hu2⟩
      · obtain ⟨s1, s2, s3⟩ := r3.kp k u (.inl hu)
        exact ⟨(hob.same k (by have := hKlt _ _ hu; omega)).trans s1, s2, s3⟩
      · exact ⟨(hob.same k (by omega)).trans k1, k2, k3⟩
      · exact ⟨(hob.same _ (by omega)).trans k4, k5, k6⟩
      · exact ⟨World.putObj_heap_same hlt1, k8, k9⟩
      · obtain ⟨s1, s2, s3⟩ := kT k hu
        exact ⟨(hob.same k (by have := (f6 k hu).1; omega)).trans (s1.trans hu2), s2, s3⟩
    refine wpIn_n rfl (hbody l (fun n v => n ∈ keys ∧ a.tmps[n]? = some v) (φA o2) _ z1 y' hB rfl (fun n v h => h.1) (fun a' W' hs hv => ?_) a1 _ hSS2 hk1)
    obtain ⟨⟨η', t1, t2, t3⟩, _, _⟩ := hs
    obtain ⟨m1, m2, m3⟩ := t3.kp kb q (.inr (.inl ⟨rfl, rfl⟩))
    obtain ⟨m4, m5, m6⟩ := t3.kp w.heap.size o' (.inr (.inr (.inl ⟨rfl, rfl⟩)))
    obtain ⟨m7, m8, m9⟩ := t3.kp (w.heap.size + 1) o2 (.inr (.inr (.inr (.inl ⟨rfl, rfl⟩))))
    have mT : ∀ k, T k → W'.heap[k]? = W1.heap[k]? ∧ ¬ LB (heapOf (obs y')) η' k ∧ η'.fz k = none := fun k hk => by
      obtain ⟨u, hu⟩ : ∃ u, W.heap[k]? = some u := ⟨_, Array.getElem?_eq_getElem (f6 k hk).2⟩
      obtain ⟨s1, s2, s3⟩ := t3.kp k u (.inr (.inr (.inr (.inr ⟨hk, hu⟩))))
      exact ⟨s1.trans (hu.symm.trans (kT k hk).1.symm), s2, s3⟩
    refine ⟨rfl, m7, m4, ⟨m1.trans ((hob.same kb (by omega)).trans k1).symm, fun k ob hψ _ => (t1 0).fz k ob (t3.fz0 k ob (e6 k ob hψ))⟩, fun k hk => (mT k hk).1, y', g3, η', t1, fun n lv hn => ?_, ⟨t3.size, t3.same, t3.lb, t3.fz0, t3.fzn, t3.os, t3.tape, t3.output, t3.drawn, fun k u hu => t3.kp k u (.inl hu)⟩, fun k hk => ?_, (Array.getElem?_eq_some_iff.1 m7).1, fun k hk => ⟨(f6 k hk).1, by
      obtain ⟨u, hu⟩ : ∃ u, W.heap[k]? = some u := ⟨_, Array.getElem?_eq_getElem (f6 k hk).2⟩
      exact (Array.getElem?_eq_some_iff.1 ((mT k hk).1.trans ((kT k hk).1.trans hu))).1⟩⟩
    · obtain ⟨v, v1, v2⟩ := t2 n lv hn
      have hkn := hkeys y' n lv hn
      obtain ⟨u, u1⟩ := hkv n hkn
      have := hv n u ⟨hkn, u1⟩
      rw [v1] at this; injection this with this; subst this
      exact ⟨v, u1, v2⟩
    · rcases hk with rfl | rfl | rfl | hk
      · exact ⟨m2, m3⟩
      · exact ⟨m5, m6⟩
      · exact ⟨m8, m9⟩
      · exact (mT k hk).2
  · rintro T W ⟨y, hy, η, f1, f2, f3, f4, f5, f6⟩ hd
    rw [hz] at hy; injection hy with hy; subst hy
    refine hk _ W ⟨⟨η, f1, f2, ⟨f3.size, f3.same, f3.lb, fun k ob h => f3.fz0 k ob (e3.fz0 k ob h), fun k ob h => (f3.fzn k ob h).elim (e3.fzn k ob) .inr, f3.os, f3.tape, f3.output, f3.drawn, fun k o h => ?_⟩⟩, hN, by rw [hD]⟩
    rcases h with h | ⟨rfl, rfl⟩
    · exact f3.kp k o h
    · obtain ⟨h1, h2⟩ := f4 w.heap.size (.inr (.inl rfl))
      exact ⟨hd, h1, h2⟩
/-- an iterator over one variable of its own -/
def IterOK (P : Program) {α : Type} (gf : Nat) (cs0 : List LV) (encs : α → Array Value) (xs : List α) : Prop :=
  ∀ (w : World) (η : Emb) (L : Loc), At η w cs0 L → (∀ k ob, η.fz k = some ob → w.heap[k]? = some ob) → SeqT Fence.wide 3 P gf #[.pointer (some ⟨L.block, L.base + 0, none⟩)] encs L.block (fun A B => B.heap[L.block]? = A.heap[L.block]? ∧ ∀ k ob, η.fz k = some ob → A.heap[k]? = some ob → B.heap[k]? = some ob) xs w
/-- what is frozen, kept, deferred after a range -/
def Later (w0 : World) (φ0 φ' : Fz0) : Prop := ∃ d, w0.heap.size ≤ d ∧ φ' = ⟨φ0.φ, fun k o => φ0.K k o ∨ (k = d ∧ o = .deferred (some [])), ⟨.collected d, #[]⟩ :: φ0.D⟩
theorem run_range {α X Z : Type} {g : Operand} {ps : Array Tmp} {assign body : Code} {gf b0 : Nat} {cs0 : List LV} {encs : α → Array Value} {xs : List α} {A : α → X → Option Z} {B : Z → Option X} {S1 : Z → St} {x0 z : X} {tm : List (Nat × LV)} {tmE : X → List (Nat × LV)} {keys : List Nat} {ob : List Ob} {obs : X → List Ob} {xp : α → List (Nat × LV)} {ks : List Nat}
    (hkeys : ∀ y n l, (n, l) ∈ tmE y → n ∈ keys) (hkeys0 : keys.all (fun n => (tmE x0).any fun p => Nat.beq n p.1) = true) (hgx : stev ⟨tm, ob⟩ g = .fn gf [.ptr b0 0]) (hob : ob[b0]? = some (.cells cs0)) (hnum : tnum (dropTm ks tm) (heapOf ob) some = some ⟨tmE x0, obs x0⟩)
    (hb0 : memB (reach (heapOf ob) 1000 ((dropTm ks tm).flatMap fun p => refs1 p.2) []) b0 = false)
    (eg : ∀ args w, (callFunc gf args).run P w = .ok (.enter gf args) w) (hit : IterOK P gf cs0 encs xs) (hps : ∀ x, (encs x).size = ps.size)
    (hxp : ∀ (x : α) (t : Array Value), N ≤ t.size → N ≤ ((ps.zip (encs x)).foldl (fun t (p, v) => t.setIfInBounds p v) t).size ∧ (∀ n l, (n, l) ∈ xp x → ∃ v, ((ps.zip (encs x)).foldl (fun t (p, v) => t.setIfInBounds p v) t)[n]? = some v ∧ ∀ η, VR η l v) ∧ ∀ n, n ∈ keys → ((ps.zip (encs x)).foldl (fun t (p, v) => t.setIfInBounds p v) t)[n]? = t[n]?)
    (hassign : ∀ (l : Nat) (V : Nat → Value → Prop) (φ' : Fz0) (Q : Exit → Act → World → Prop) x y z, A x y = some z → φ'.D = [] → (∀ n v, V n v → n ∈ keys) → CnI V w0 φ' N (S1 z) Q .normal → RunI l P V w0 φ' N assign ⟨xp x ++ tmE y, obs y⟩ Q)
    (hbody : ∀ (l : Nat) (V : Nat → Value → Prop) (φ' : Fz0) (Q : Exit → Act → World → Prop) z y', B z = some y' → φ'.D = [] → (∀ n v, V n v → n ∈ keys) → CnI V w0 φ' N ⟨tmE y', obs y'⟩ Q .normal → RunI l P V w0 φ' N body (S1 z) Q)
    (hz : loopF (step2 A B) xs x0 = some z)
    (hk : ∀ φ', Later w0 φ0 φ' → Cn w0 φ' N ⟨tmE z, obs z⟩ Q .normal) : Run P w0 φ0 N (.rangeFunc g ps assign body) ⟨tm, ob⟩ Q := by
  intro a w hs
  have hs0 := hs
  obtain ⟨⟨η, h1, h2, h3⟩, h4, h5⟩ := hs
  have hv : VR η (.fn gf [.ptr b0 0]) (a.eval g) := by
    have hx := xev_ok (η := η) (t := memOf tm .lf) (a := a) (fun n l hl => by
      rcases get_memOf tm .lf n l hl with h6 | h6
      · exact h2 n l h6
      · rw [Tr.get_lf] at h6; cases h6) g
    rwa [show xev (memOf tm .lf) g = .fn gf [.ptr b0 0] from hgx] at hx
  generalize hge : a.eval g = gv at hv
  cases hv with
  | fn hl hh =>
    obtain ⟨v, rfl, hp⟩ := vrs1 ⟨hl, hh⟩
    cases hp with
    | ptr hL =>
      rename_i L
      have hget : (heapOf ob).get b0 = some (.cells cs0) := by rw [get_heapOf]; exact hob
      have hat := ((h1 0).live b0 _ hget).at hL
      have hlb : LB (heapOf ob) η L.block := ⟨b0, _, L, hget, hL, rfl⟩
      unfold tnum at hnum
      generalize hρ : reach (heapOf ob) 1000 ((dropTm ks tm).flatMap fun p => refs1 p.2) [] = ρ at hnum hb0
      simp only at hnum
      rw [Bool.cond_eq_ite] at hnum
      split at hnum
      · rename_i hn
        split at hnum
        · rename_i tm' obs' g1 g2
          injection hnum with hnum
          injection hnum with q1 q2
          subst q1; subst q2
          obtain ⟨_, e2⟩ := renObs_get ρ g2
          have hE2 : ∀ n l', (n, l') ∈ tmE x0 → ∃ v, a.tmps[n]? = some v ∧ VR (η.sub ρ) l' v := fun n l' hl' => by
            obtain ⟨l, m1, m2⟩ := renTm_mem _ g1 n l' hl'
            obtain ⟨u, u1, u2⟩ := h2 n l (dropTm_mem ks tm _ m1)
            exact ⟨u, u1, ren_ok ρ m2 u2⟩
          refine range_core (ψ := η.fz) hkeys hge eg (hit w η L hat (h1 0).fz) hat.lt (h3.lb _ hlb) (fun o ho => (h3.kp _ o ho).2.1 hlb) hps h5.symm
            ⟨η.sub ρ, hr_sub hn g2 (h1 0), hE2, fr_sub g2 h3, fun ⟨j, ob', L', hj, hL', hk'⟩ => ?_, (h1 0).sep _ hlb, fun k ob h => h⟩ hxp hassign hbody hz h4 (fun n hn => by
              have := List.all_eq_true.1 hkeys0 n hn
              obtain ⟨⟨n', l⟩, m1, m2⟩ := List.any_eq_true.1 this
              obtain rfl := Nat.eq_of_beq_eq_true m2
              obtain ⟨v, v1, _⟩ := hE2 _ l m1
              exact ⟨v, v1⟩) (fun a' W hss => hk _ ⟨_, h3.size, rfl⟩ a' W hss)
          · rw [get_heapOf] at hj
            obtain ⟨n, ob1, m1, m2, m3⟩ := e2 j ob' hj
            have hLn : η.loc n = some L' := by unfold Emb.sub at hL'; simpa only [m1, Option.bind_some] using hL'
            have : n = b0 := (h1 0).inj n b0 _ _ _ _ m2 hget hLn hL hk'
            subst this
            rw [memB_iff.2 (List.mem_of_getElem? m1)] at hb0
            cases hb0
        · cases hnum
      · cases hnum
/-- what holds where a body that has a range ends -/
def EndM (T : Tys) (w0 : World) (φ0 : Fz0) (N : Nat) (rs : List ResultVar) (out : LV × List Ob) (Q : Exit → Act → World → Prop) : Prop :=
  End T w0 φ0 N rs out Q ∧ ∀ φ', Later w0 φ0 φ' → End T w0 φ' N rs out Q
theorem cok_marks {T : Tys} (hT : TysOK P T) {S : Spec} {fn : Func} {c : Code} (hfn : P.funcs[S.g]? = some fn) (hc : fn.body = some c) (hname : ¬ fn.name = "runtime.NumGoroutine")
    (h : ∀ x r, S.F x = some r → ∀ w0 φ0 Q, EndM T w0 φ0 fn.ntmps fn.results.toList (S.enc r) Q → Run P w0 φ0 fn.ntmps c ⟨nums 0 (argsOf S.τs x), []⟩ Q) : COK P S := by
  refine ⟨fun x r hx w φ vs hφ hv => ?_, fn, c, hfn, hc, hname⟩
  refine callsIn_wide.1 (callsIn_of_wp_marks (n := 0) hfn hc trivial (wpIn_wide.2 ?_) rfl)
  have plain : ∀ s, tfin T fn.results.toList s = some (S.enc r) → ∀ a w', SS w (noK φ) fn.ntmps s a w' → LeavesInM Fence.wide 0 P fn a.tmps (fun e w' => ∃ v' η', e = .returned v' ∧ VR η' (S.enc r).1 v' ∧ (∀ M, HR M η' (heapOf (S.enc r).2) w') ∧ Fr w (noK φ) (heapOf (S.enc r).2) η' w') [] .returning w' := fun s hs a w' hss =>
    (fin_ok (S := S) (r := r) hT hs a w' hss).2
  have e1 : ∀ s, tfin T fn.results.toList s = some (S.enc r) → ∀ a w', SS w (noK φ) fn.ntmps s a w' → LeavesInM Fence.wide 0 P fn a.tmps (fun e w' => ∃ v' η', e = .returned v' ∧ VR η' (S.enc r).1 v' ∧ (∀ M, HR M η' (heapOf (S.enc r).2) w') ∧ Fr w (noK φ) (heapOf (S.enc r).2) η' w') a.defers .returning w' := fun s hs a w' hss => by
    rw [hss.defers]; exact plain s hs a w' hss
  have e2 : ∀ φ', Later w (noK φ) φ' → ∀ s, tfin T fn.results.toList s = some (S.enc r) → ∀ a w', SS w φ' fn.ntmps s a w' → LeavesInM Fence.wide 0 P fn a.tmps (fun e w' => ∃ v' η', e = .returned v' ∧ VR η' (S.enc r).1 v' ∧ (∀ M, HR M η' (heapOf (S.enc r).2) w') ∧ Fr w (noK φ) (heapOf (S.enc r).2) η' w') a.defers .returning w' := by
    rintro φ' ⟨d, hd, rfl⟩ s hs a w' hss
    rw [hss.defers]
    obtain ⟨η, h1, h2, h3⟩ := hss.emb
    obtain ⟨k1, k2, k3⟩ := h3.kp d _ (.inr ⟨rfl, rfl⟩)
    have hb := OnlyB.put w' d (.deferred none)
    have h3' : Fr w (noK φ) (heapOf s.ob) η w' := ⟨h3.size, h3.same, h3.lb, h3.fz0, h3.fzn, h3.os, h3.tape, h3.output, h3.drawn, fun k o h => h.elim⟩
    refine ⟨by simp, .inl ⟨d, _, rfl, run_takeDeferred k1, ?_⟩⟩
    exact plain s hs { a with defers := [] } _ ⟨⟨η, fun M => (h1 M).only hb k2 k3, h2, h3'.only hb hd fun o h => h⟩, hss.size, rfl⟩
  refine h x r hx w (noK φ) _ ⟨fun s hs => ⟨fun a w' hss => e1 s hs a w' hss, fun a w' hss => e1 s hs a w' hss⟩, fun φ' hl s hs => ⟨fun a w' hss => e2 φ' hl s hs a w' hss, fun a w' hss => e2 φ' hl s hs a w' hss⟩⟩ _ w ⟨⟨Emb.fro φ, hr_nil hφ, fun n l hl => ?_, fr_nil w φ⟩, ?_, rfl⟩
  · obtain ⟨_, h2⟩ := nums_mem _ 0 n l hl
    rw [Nat.sub_zero] at h2
    obtain ⟨v, e1, e2⟩ := hv.get h2
    refine ⟨v, ?_, e2⟩
    have hlt := (List.getElem?_eq_some_iff.1 e1).1
    rw [Array.getElem?_append_left (by simpa using hlt)]
    simpa using e1
  · simp; omega
end
end Go.Tx

namespace Go.Tx
open Go Go.RegC
theorem bif_none {α : Type} {c : Bool} {A : Option α} {r : α} (h : (bif c then A else none) = some r) : c = true ∧ A = some r := by
  cases c with
  | true => exact ⟨rfl, h⟩
  | false => cases h
theorem keys_at {k : List Nat} {tm : List (Nat × LV)} (hk : k = tm.map Prod.fst) {n : Nat} {l : LV} (h : (n, l) ∈ tm) : n ∈ k := by
  rw [hk]; exact List.mem_map.2 ⟨(n, l), h, rfl⟩
theorem sib_self {a : Array Value} {i : Nat} {v : Value} (h : i < a.size) : (a.setIfInBounds i v)[i]? = some v := by
  simp [Array.getElem?_setIfInBounds, h]
theorem sib_ne {a : Array Value} {i j : Nat} {v : Value} (h : Nat.beq i j = false) : (a.setIfInBounds i v)[j]? = a[j]? :=
  Array.getElem?_setIfInBounds_ne (Nat.ne_of_beq_eq_false h)
theorem cnI_num {V : Nat → Value → Prop} {w0 : World} {φ0 : Fz0} {N : Nat} {tm : List (Nat × LV)} {ob : List Ob} {s : St} {Q : Exit → Act → World → Prop} {e : Exit} (ks : List Nat) (hs : tnum (dropTm ks tm) (heapOf ob) some = some s) (h : CnI V w0 φ0 N s Q e) : CnI V w0 φ0 N ⟨tm, ob⟩ Q e := fun a w hss hv => by
  obtain ⟨s', h1, h2⟩ := num_ok hs
  injection h1 with h1; subst h1
  obtain ⟨⟨η, g1, g2, g3⟩, g4, g5⟩ := hss
  exact h a w (h2 w0 φ0 0 η w a N (g1 0) (fun n l hl => g2 n l (dropTm_mem ks tm _ hl)) g3 g4 g5) hv
theorem fold1 {p : Nat} {v : Value} {t : Array Value} : ((#[p] : Array Tmp).zip #[v]).foldl (fun t (p, v) => t.setIfInBounds p v) t = t.setIfInBounds p v := by simp
theorem fold2 {p q : Nat} {v u : Value} {t : Array Value} : ((#[p, q] : Array Tmp).zip #[v, u]).foldl (fun t (p, v) => t.setIfInBounds p v) t = (t.setIfInBounds p v).setIfInBounds q u := by simp
end Go.Tx

namespace Go.Tx
open Go Go.Pel
def ofP (p : Int × Int × Int × Unit) : Pt := ⟨p.1, p.2.1, p.2.2.1⟩
def toP (p : Pt) : Int × Int × Int × Unit := (p.id, p.a, p.b, ())
theorem ofP_toP (p : Pt) : ofP (toP p) = p := rfl
theorem toP_ofP (p : Int × Int × Int × Unit) : toP (ofP p) = p := rfl
def toI (n : Int) : Int × Unit := (n, ())
abbrev RP : Row := .int .i64 (.int .i64 (.int .i64 .nil))
abbrev RI : Row := .int .i64 .nil
/-- the cells of plain elements -/
def valsR : (τ : Row) → den τ → List Value
  | .nil, _ => []
  | .int k r, x => .int k x.1 :: valsR r x.2
  | .bool r, x => .bool x.1 :: valsR r x.2
  | .sl _ r, x => valsR r x.2
def valsL (τ : Row) : List (den τ) → List Value
  | [] => []
  | x :: xs => valsR τ x ++ valsL τ xs
abbrev TP : Type := Int × Int × Int × Unit
abbrev TI1 : Type := Int × Unit
theorem valsL_pt (l : List TP) : valsL RP l = vp (l.map ofP) := by
  induction l with
  | nil => rfl
  | cons p l ih => show valsR RP p ++ valsL RP l = vp (ofP p :: l.map ofP); rw [ih]; rfl
theorem valsL_int (l : List TI1) : valsL RI l = vi (l.map fun x => x.1) := by
  induction l with
  | nil => rfl
  | cons p l ih => show valsR RI p ++ valsL RI l = vi (p.1 :: l.map fun x => x.1); rw [ih]; rfl
theorem valsR_len : ∀ (τ : Row), plainR τ = true → ∀ x : den τ, (valsR τ x).length = τ.size
  | .nil, _, _ => rfl
  | .int _ r, h, x => by rw [valsR, List.length_cons, valsR_len r h, Row.size]
  | .bool r, h, x => by rw [valsR, List.length_cons, valsR_len r h, Row.size]
  | .sl _ r, h, _ => by cases h
theorem valsL_len {τ : Row} (h : plainR τ = true) : ∀ xs : List (den τ), (valsL τ xs).length = xs.length * τ.size
  | [] => by simp [valsL]
  | x :: xs => by rw [valsL, List.length_append, valsR_len τ h, valsL_len h xs, List.length_cons, Nat.succ_mul]; omega
theorem vrs_vals {η : Emb} : ∀ (τ : Row), plainR τ = true → ∀ x : den τ, VRs η (split τ x) (valsR τ x)
  | .nil, _, _ => VRs.nil
  | .int _ r, h, x => VRs.cons (.int _ _) (vrs_vals r h x.2)
  | .bool r, h, x => VRs.cons (.bool _) (vrs_vals r h x.2)
  | .sl _ r, h, _ => by cases h
theorem vrs_valsL {η : Emb} {τ : Row} (h : plainR τ = true) : ∀ xs : List (den τ), VRs η (flat τ xs) (valsL τ xs)
  | [] => VRs.nil
  | x :: xs => (vrs_vals τ h x).append (vrs_valsL h xs)
/-- an element's cells -/
theorem rowF_cell {φ : Nat → Option Obj} {w : World} (hφ : ∀ k ob, φ k = some ob → w.heap[k]? = some ob) {b : Nat} : ∀ (τ : Row), plainR τ = true → ∀ (x : den τ) (o : Nat), RowF φ τ x b o → ∀ (j : Nat) u, (valsR τ x)[j]? = some u → w.cell? ⟨b, o + j, none⟩ = some u
  | .nil, _, _, _, _, j, u, hu => by simp [valsR] at hu
  | .int k r, h, x, o, hr, j, u, hu => by
    cases j with
    | zero =>
      simp only [valsR, List.getElem?_cons_zero, Option.some.injEq] at hu; subst hu
      obtain ⟨ob, h1, h2⟩ := hr.1
      rw [Nat.add_zero, cell_ob, hφ b ob h1]; exact h2
    | succ j => have := rowF_cell hφ r h x.2 (o + 1) hr.2 j u (by simpa [valsR] using hu); rwa [show o + 1 + j = o + (j + 1) by omega] at this
  | .bool r, h, x, o, hr, j, u, hu => by
    cases j with
    | zero =>
      simp only [valsR, List.getElem?_cons_zero, Option.some.injEq] at hu; subst hu
      obtain ⟨ob, h1, h2⟩ := hr.1
      rw [Nat.add_zero, cell_ob, hφ b ob h1]; exact h2
    | succ j => have := rowF_cell hφ r h x.2 (o + 1) hr.2 j u (by simpa [valsR] using hu); rwa [show o + 1 + j = o + (j + 1) by omega] at this
  | .sl _ r, h, _, _, _, _, _, _ => by cases h
theorem valsL_get {τ : Row} (h : plainR τ = true) (hs : 0 < τ.size) (xs : List (den τ)) (j : Nat) (hj : j < xs.length * τ.size) : ∃ x, xs[j / τ.size]? = some x ∧ (valsL τ xs)[j]? = (valsR τ x)[j % τ.size]? := by
  induction xs generalizing j with
  | nil => simp at hj
  | cons y ys ih =>
    rw [valsL]
    have hl := valsR_len τ h y
    rcases Nat.lt_or_ge j τ.size with hlt | hge
    · refine ⟨y, by rw [Nat.div_eq_of_lt hlt]; rfl, ?_⟩
      rw [List.getElem?_append_left (by omega), Nat.mod_eq_of_lt hlt]
    · rw [List.length_cons, Nat.succ_mul] at hj
      obtain ⟨x, h1, h2⟩ := ih (j - τ.size) (by omega)
      have e1 : j / τ.size = (j - τ.size) / τ.size + 1 := by
        conv => lhs; rw [show j = (j - τ.size) + τ.size by omega, Nat.add_div_right _ hs]
      have e2 : j % τ.size = (j - τ.size) % τ.size := by
        conv => lhs; rw [show j = (j - τ.size) + τ.size by omega, Nat.add_mod_right]
      exact ⟨x, by rw [e1, List.getElem?_cons_succ]; exact h1, by rw [List.getElem?_append_right (by omega), hl, h2, e2]⟩
/-- a slice that is written no more, as cells -/
theorem fz_sl {φ : Nat → Option Obj} {w : World} (hφ : ∀ k ob, φ k = some ob → w.heap[k]? = some ob) {τ : Row} (h : plainR τ = true) (hs : 0 < τ.size) {xs : List (den τ)} {v : Value} (hv : VR (Emb.fro φ) (.fz τ xs) v) : ∃ A c, v = .slice A xs.length c ∧ Sl w τ.size A xs.length c (valsL τ xs) ∧ (A = none → c = 0) := by
  cases hv with
  | fz hf =>
    obtain ⟨A, c, rfl, h1, h0, h2⟩ := hf
    refine ⟨A, c, rfl, ⟨h1, valsL_len h xs, fun hn => ?_⟩, h0⟩
    obtain ⟨b, o, rfl, hr0⟩ := h2 0 _ (rowAt_get hn)
    refine ⟨b, o, rfl, ?_, fun j u hu => ?_⟩
    · have hlen := valsR_len τ h (rowAt τ xs 0)
      obtain ⟨u, hu⟩ : ∃ u, (valsR τ (rowAt τ xs 0))[0]? = some u := ⟨_, List.getElem?_eq_getElem (by omega)⟩
      have := rowF_cell hφ τ h _ _ hr0 0 u hu
      unfold World.cell? at this
      cases hb : w.heap[b]? with
      | none => rw [show w.heap[(⟨b, o + 0 * τ.size + 0, none⟩ : Addr).block]? = w.heap[b]? from rfl, hb] at this; cases this
      | some ob => exact (Array.getElem?_eq_some_iff.1 hb).1
    · have hj : j < xs.length * τ.size := by rw [← valsL_len h xs]; exact (List.getElem?_eq_some_iff.1 hu).1
      obtain ⟨x, h3, h4⟩ := valsL_get h hs xs j hj
      obtain ⟨b', o', e1, e2⟩ := h2 _ x h3
      injection e1 with e1; injection e1 with e3 e4; subst e3 e4
      have := rowF_cell hφ τ h x _ e2 (j % τ.size) u (by rw [← h4]; exact hu)
      rwa [Nat.add_assoc, Nat.mul_comm, Nat.div_add_mod] at this
theorem vr_field {φ : Nat → Option Obj} {w : World} (hφ : ∀ k ob, φ k = some ob → w.heap[k]? = some ob) {l : List TP} {v : Value} (hv : VR (Emb.fro φ) (.agg [.fz RP l]) v) : ∃ A c, v = .agg #[.slice A (l.map ofP).length c] ∧ Sl w 3 A (l.map ofP).length c (vp (l.map ofP)) ∧ (A = none → c = 0) := by
  cases hv with
  | agg hl hh =>
    obtain ⟨u, rfl, hu⟩ := vrs1 ⟨hl, hh⟩
    obtain ⟨A, c, rfl, h1, h2⟩ := fz_sl hφ (τ := RP) rfl (by decide) hu
    have e1 : (l.map ofP).length = l.length := List.length_map ofP
    have h3 : Sl w 3 A l.length c (vp (l.map ofP)) := by rw [← valsL_pt l]; exact h1
    exact ⟨A, c, by rw [e1]; rfl, by rw [e1]; exact h3, h2⟩
theorem vr_ints {φ : Nat → Option Obj} {w : World} (hφ : ∀ k ob, φ k = some ob → w.heap[k]? = some ob) {l : List TI1} {v : Value} (hv : VR (Emb.fro φ) (.fz RI l) v) : ∃ A c, v = .slice A (l.map fun x => x.1).length c ∧ Sl w 1 A (l.map fun x => x.1).length c (vi (l.map fun x => x.1)) ∧ (A = none → c = 0) := by
  obtain ⟨A, c, rfl, h1, h2⟩ := fz_sl hφ (τ := RI) rfl (by decide) hv
  have e1 : (l.map fun x => x.1).length = l.length := List.length_map _
  have h3 : Sl w 1 A l.length c (vi (l.map fun x => x.1)) := by rw [← valsL_int l]; exact h1
  exact ⟨A, c, by rw [e1]; rfl, by rw [e1]; exact h3, h2⟩
theorem vr_point {η : Emb} {p : den RP} {v : Value} (hv : VR η (.agg (split RP p)) v) : v = .agg #[.int .i64 (ofP p).id, .int .i64 (ofP p).a, .int .i64 (ofP p).b] := by
  cases hv with
  | agg hl hh =>
    obtain ⟨u1, vs, rfl, h1, h2⟩ := VRs.uncons (c := .int .i64 p.1) ⟨hl, hh⟩
    obtain ⟨u2, vs, rfl, h3, h4⟩ := VRs.uncons (c := .int .i64 p.2.1) h2
    obtain ⟨u3, rfl, h5⟩ := vrs1 (c := .int .i64 p.2.2.1) h4
    cases h1; cases h3; cases h5; rfl
theorem vr_ratio {η : Emb} {a b : Int} {v : Value} (hv : VR η (.agg [.int .i64 a, .int .i64 b]) v) : v = .agg #[.int .i64 a, .int .i64 b] := by
  cases hv with
  | agg hl hh =>
    obtain ⟨u1, u2, rfl, h1, h2⟩ := vrs2 ⟨hl, hh⟩
    cases h1; cases h2; rfl
theorem vr_int {η : Emb} {k : IntKind} {a : Int} {v : Value} (hv : VR η (.int k a) v) : v = .int k a := by cases hv; rfl
theorem vr_bool {η : Emb} {a : Bool} {v : Value} (hv : VR η (.bool a) v) : v = .bool a := by cases hv; rfl
theorem VR.tupL {η : Emb} {cs : List LV} {vs : List Value} (h : VRs η cs vs) : VR η (.tup cs) (.tuple vs.toArray) := .tup h.1 h.2
theorem VR.aggL {η : Emb} {cs : List LV} {vs : List Value} (h : VRs η cs vs) : VR η (.agg cs) (.agg vs.toArray) := .agg h.1 h.2
/-- what a contract gives at the end -/
def Gives (w : World) (φ : Nat → Option Obj) (er : LV × List Ob) (e : Ending) (w' : World) : Prop := ∃ v' η', e = .returned v' ∧ VR η' er.1 v' ∧ (∀ M, HR M η' (heapOf er.2) w') ∧ Fr w (noK φ) (heapOf er.2) η' w'
theorem gives_pure {w : World} {φ : Nat → Option Obj} (hφ : ∀ k ob, φ k = some ob → w.heap[k]? = some ob) {l : LV} {v : Value} (hv : VR (Emb.fro φ) l v) (y : Beyond) : Gives w φ (l, []) (.returned v) (ext w y) := by
  have hb := bel_ext w y
  have h2 : ∀ k ob, φ k = some ob → (ext w y).heap[k]? = some ob := fun k ob hk => by rw [hb.block k (Array.getElem?_eq_some_iff.1 (hφ k ob hk)).1]; exact hφ k ob hk
  exact ⟨v, _, rfl, hv, hr_nil h2, hb.size, fun k hk => hb.block k hk, (fun k ⟨b, ob, L, h, _⟩ => by rw [get_heapOf] at h; simp at h), fun _ _ h => h, fun _ _ h => .inl h, hb.os, hb.tape, hb.output, hb.mono, fun _ _ h => h.elim⟩
/-- one row of one's own -/
theorem gives_own {w : World} {φ : Nat → Option Obj} (hφ : ∀ k ob, φ k = some ob → w.heap[k]? = some ob) {τ : Row} (hp : plainR τ = true) {xs : List (den τ)} {n : Nat} (hn : xs.length = n) {A : Option Addr} {c : Nat} {e : TypeId} {y : Beyond} {vals : List Value} (ho : Own (ext w y) w.heap.size e τ.size A n c vals) (hvals : valsL τ xs = vals)
    {l : LV} {v : Value} (hv : ∀ η : Emb, η.hdr 0 = some (.slice A n c) → VR η l v) : Gives w φ (l, [.rows τ xs]) (.returned v) (ext w y) := by
  subst hn
  have hb := bel_ext w y
  have h2 : ∀ k ob, φ k = some ob → (ext w y).heap[k]? = some ob := fun k ob hk => by rw [hb.block k (Array.getElem?_eq_some_iff.1 (hφ k ob hk)).1]; exact hφ k ob hk
  have hlt : ∀ k ob, φ k = some ob → k < w.heap.size := fun k ob hk => (Array.getElem?_eq_some_iff.1 (hφ k ob hk)).1
  have get0 : ∀ (b : Nat) ob, (heapOf [Ob.rows τ xs]).get b = some ob → b = 0 ∧ ob = .rows τ xs := fun b ob h => by
    rw [get_heapOf] at h
    cases b with
    | zero => simp at h; exact ⟨rfl, h.symm⟩
    | succ b => simp at h
  rcases Own.row ho with ⟨rfl, hn, rfl, hx⟩ | ⟨g, cur, rfl, hrow, hnc, htake⟩
  · have hxs : xs = [] := List.eq_nil_of_length_eq_zero hn
    subst hxs
    refine ⟨v, ⟨fun _ => none, fun b => if b = 0 then some (.slice none 0 0) else none, φ⟩, rfl, hv _ rfl, fun M => ⟨fun b hb1 _ => ?_, fun b ob h => ?_, fun b ob h => ?_, fun b1 b2 o1 o2 L1 L2 _ _ h => (by cases h), h2, fun k ⟨b, ob, L, _, h, _⟩ => (by cases h), fun b v h => ?_⟩,
      hb.size, fun k hk => hb.block k hk, fun k ⟨b, ob, L, _, h, _⟩ => (by cases h), fun _ _ h => h, fun _ _ h => .inl h, hb.os, hb.tape, hb.output, hb.mono, fun _ _ h => h.elim⟩
    · have hb1' : 1 ≤ b := hb1
      exact ⟨rfl, if_neg (by omega)⟩
    · obtain ⟨rfl, _⟩ := get0 b ob h; exact Nat.zero_lt_one
    · obtain ⟨rfl, rfl⟩ := get0 b ob h
      exact .none (A := none) rfl rfl
    · simp only at h
      split at h
      · injection h with h; exact ⟨_, _, _, h.symm⟩
      · cases h
  · have hg : (ext w y).heap[g]? = some (.cells cur.toArray e (0, 0)) := hrow.2.1
    have hlen := hrow.len
    have hlb : ∀ (k : Nat), LB (heapOf [Ob.rows τ xs]) ⟨fun b => if b = 0 then some ⟨g, 0, c * τ.size⟩ else none, fun b => if b = 0 then some (.slice (some ⟨g, 0, none⟩) xs.length c) else none, φ⟩ k → k = g := fun k ⟨b, ob, L, hb1, h, hk⟩ => by
      obtain ⟨rfl, _⟩ := get0 b ob hb1
      simp only [if_pos] at h
      injection h with h; subst h; exact hk.symm
    refine ⟨v, ⟨fun b => if b = 0 then some ⟨g, 0, c * τ.size⟩ else none, fun b => if b = 0 then some (.slice (some ⟨g, 0, none⟩) xs.length c) else none, φ⟩, rfl, hv _ rfl, fun M => ⟨fun b hb1 _ => ?_, fun b ob h => ?_, fun b ob h => ?_, fun b1 b2 o1 o2 L1 L2 h1 h2 _ _ _ => ?_, h2, fun k hk => ?_, fun b v h => ?_⟩,
      hb.size, fun k hk => hb.block k hk, fun k hk => ?_, fun _ _ h => h, fun _ _ h => .inl h, hb.os, hb.tape, hb.output, hb.mono, fun _ _ h => h.elim⟩
    · have hb1' : 1 ≤ b := hb1
      exact ⟨if_neg (by omega), if_neg (by omega)⟩
    · obtain ⟨rfl, _⟩ := get0 b ob h; exact Nat.zero_lt_one
    · obtain ⟨rfl, rfl⟩ := get0 b ob h
      refine .rows (L := ⟨g, 0, c * τ.size⟩) (c := c) rfl ⟨hrow.lt, ?_, fun j _ hj => ⟨?_, hrow.frozen j⟩, fun j cc hc => ?_⟩ rfl hnc (by simp)
      · rw [flat_len]; show 0 + _ ≤ c * τ.size; have := Nat.mul_le_mul_right τ.size hnc; omega
      · have hj' : j < cur.length := by rw [hlen]; exact hj
        have := hrow.cell (List.getElem?_eq_getElem hj')
        rw [this]; rfl
      · obtain ⟨u, h3, h4⟩ := (vrs_valsL (η := ⟨fun b => if b = 0 then some ⟨g, 0, c * τ.size⟩ else none, fun b => if b = 0 then some (.slice (some ⟨g, 0, none⟩) xs.length c) else none, φ⟩) hp xs).get hc
        refine ⟨u, ?_, h4⟩
        rw [hvals, ← htake, List.getElem?_take] at h3
        split at h3
        · have := hrow.cell h3; simpa using this
        · cases h3
    · obtain ⟨rfl, _⟩ := get0 b1 o1 h1
      obtain ⟨rfl, _⟩ := get0 b2 o2 h2
      rfl
    · have hk := hlb k hk
      subst hk
      show φ k = none
      cases hf : φ k with
      | none => rfl
      | some ob => have := hlt k ob hf; have := hrow.1; omega
    · simp only at h
      split at h
      · injection h with h; exact ⟨_, _, _, h.symm⟩
      · cases h
    · have hk := hlb k hk; subst hk; exact hrow.1
/-- a contract out of a walked one -/
theorem cok_old {P : Program} {S : Spec} (hb : ∃ fn c, P.funcs[S.g]? = some fn ∧ fn.body = some c ∧ ¬ fn.name = "runtime.NumGoroutine")
    (h : ∀ x r, S.F x = some r → ∀ (w : World) (φ : Nat → Option Obj) (vs : List Value), (∀ k ob, φ k = some ob → w.heap[k]? = some ob) → VRs (Emb.fro φ) (argsOf S.τs x) vs → Calls P S.g vs.toArray w (Gives w φ (S.enc r))) : COK P S := ⟨h, hb⟩
theorem body_of {P : Program} {g : Nat} {fn : Func} (h1 : P.funcs[g]? = some fn) (h2 : fn.body.isSome = true) (h3 : (fn.name == "runtime.NumGoroutine") = false) : ∃ fn c, P.funcs[g]? = some fn ∧ fn.body = some c ∧ ¬ fn.name = "runtime.NumGoroutine" := by
  obtain ⟨c, hc⟩ := Option.isSome_iff_exists.1 h2
  exact ⟨fn, c, h1, hc, by simpa using h3⟩
end Go.Tx

namespace Go.Tx
open Go Go.Sort Go.RowKit Go.Proofs Go.Shelf
theorem flatK_list2 {α : Type} [Inhabited α] (enc : α → List Value) (k : Nat) (hk : ∀ x, (enc x).length = k) : ∀ (l : List α), (flatK enc k l.toArray).toList = l.flatMap enc := by
  intro l
  have key : ∀ (l : List α) (t : Nat), t < l.length * k → (l.flatMap enc)[t]? = some ((enc l[t / k]!)[t % k]!) := by
    intro l
    induction l with
    | nil => intro t ht; simp at ht
    | cons a r ih =>
      intro t ht
      have k0 : 0 < k := by
        rcases Nat.eq_zero_or_pos k with h | h
        · subst h; simp at ht
        · exact h
      rw [List.flatMap_cons]
      by_cases hlt : t < k
      · rw [List.getElem?_append_left (by rw [hk]; exact hlt), Nat.div_eq_of_lt hlt, Nat.mod_eq_of_lt hlt]
        have : t < (enc a).length := by rw [hk]; exact hlt
        simp [this]
      · rw [List.getElem?_append_right (by rw [hk]; omega), hk]
        have h2 : t - k < r.length * k := by
          rw [List.length_cons, Nat.add_mul, Nat.one_mul] at ht; omega
        rw [ih (t - k) h2]
        have e1 : t / k = (t - k) / k + 1 := by
          have := Nat.div_eq_sub_div k0 (by omega : k ≤ t)
          omega
        have e2 : t % k = (t - k) % k := Nat.mod_eq_sub_mod (by omega)
        rw [e1, e2]
        simp
  have hlen : (l.flatMap enc).length = l.length * k := by
    induction l with
    | nil => simp
    | cons a r ih => rw [List.flatMap_cons, List.length_append, ih, hk, List.length_cons, Nat.add_mul, Nat.one_mul]; omega
  apply List.ext_getElem?
  intro t
  by_cases ht : t < l.length * k
  · rw [key l t ht]
    simp [flatK, ht]
  · rw [List.getElem?_eq_none (by simp [flatK]; omega), List.getElem?_eq_none (by rw [hlen]; omega)]
/-- equality of plain elements -/
def eqR : (τ : Row) → den τ → den τ → Bool
  | .nil, _, _ => true
  | .int _ r, x, y => x.1 == y.1 && eqR r x.2 y.2
  | .bool r, x, y => x.1 == y.1 && eqR r x.2 y.2
  | .sl _ _, _, _ => false
theorem eqR_eq : ∀ (τ : Row) (x y : den τ), eqR τ x y = true → x = y
  | .nil, _, _, _ => rfl
  | .int k r, x, y, h => by
    rw [eqR, Bool.and_eq_true, beq_iff_eq] at h
    exact Prod.ext h.1 (eqR_eq r x.2 y.2 h.2)
  | .bool r, x, y, h => by
    rw [eqR, Bool.and_eq_true, beq_iff_eq] at h
    exact Prod.ext h.1 (eqR_eq r x.2 y.2 h.2)
  | .sl _ _, _, _, h => by cases h
section
variable {τ : Row} (F : den τ × den τ × Unit → Option Int)
def cmpV (x y : den τ) : Int := match F (x, y, ()) with | some n => n | none => 0
def ltV (x y : den τ) : Bool := decide (cmpV F x y < 0)
/-- is the comparator a strict order on these? -/
def sortB (xs : List (den τ)) : Bool :=
  xs.all (fun x => xs.all fun y => (F (x, y, ())).isSome) && xs.all (fun x => !(ltV F x x)) &&
  xs.all (fun x => xs.all fun y => !(ltV F x y) || xs.all fun z => !(ltV F y z) || ltV F x z) &&
  xs.all (fun x => xs.all fun y => ltV F x y || xs.all fun z => ltV F y z || !(ltV F x z)) &&
  xs.all (fun x => xs.all fun y => ltV F x y || ltV F y x || eqR τ x y)
end
/-- sorted by putting in -/
def insL {α : Type} (lt : α → α → Bool) (x : α) : List α → List α
  | [] => [x]
  | y :: ys => bif lt x y then x :: y :: ys else y :: insL lt x ys
def sortL {α : Type} (lt : α → α → Bool) : List α → List α
  | [] => []
  | x :: xs => insL lt x (sortL lt xs)
def sortV {τ : Row} (F : den τ × den τ × Unit → Option Int) (xs : List (den τ)) : Option (List (den τ)) := bif Nat.ble xs.length 1000000 && sortB F xs then some (sortL (ltV F) xs) else none
theorem insL_perm {α : Type} (lt : α → α → Bool) (x : α) : ∀ l : List α, (insL lt x l).Perm (x :: l)
  | [] => .refl _
  | y :: ys => by
    rw [insL]
    cases lt x y with
    | true => exact .refl _
    | false => exact ((insL_perm lt x ys).cons y).trans (.swap x y ys)
theorem sortL_perm {α : Type} (lt : α → α → Bool) : ∀ l : List α, (sortL lt l).Perm l
  | [] => .refl _
  | x :: xs => by rw [sortL]; exact (insL_perm lt x _).trans ((sortL_perm lt xs).cons x)
theorem insL_pw {α : Type} {lt : α → α → Bool} {S : α → Prop} (has : ∀ a b, S a → S b → lt a b = true → lt b a = false) (hn : ∀ a b c, S a → S b → S c → lt a b = false → lt b c = false → lt a c = false) {x : α} (hx : S x) : ∀ l : List α, (∀ a ∈ l, S a) → l.Pairwise (fun a b => lt b a = false) → (insL lt x l).Pairwise (fun a b => lt b a = false)
  | [], _, _ => List.pairwise_singleton _ _
  | y :: ys, hS, hp => by
    obtain ⟨h1, h2⟩ := List.pairwise_cons.1 hp
    have hy := hS y (List.mem_cons_self ..)
    rw [insL]
    cases hl : lt x y with
    | true =>
      refine List.pairwise_cons.2 ⟨fun b hb => ?_, hp⟩
      have hyx := has x y hx hy hl
      rcases List.mem_cons.1 hb with rfl | hb
      · exact hyx
      · exact hn b y x (hS b (List.mem_cons_of_mem _ hb)) hy hx (h1 b hb) hyx
    | false =>
      refine List.pairwise_cons.2 ⟨fun b hb => ?_, insL_pw has hn hx ys (fun a ha => hS a (List.mem_cons_of_mem _ ha)) h2⟩
      rcases List.mem_cons.1 ((insL_perm lt x ys).mem_iff.1 hb) with rfl | hb
      · exact hl
      · exact h1 b hb
theorem sortL_pw {α : Type} {lt : α → α → Bool} {S : α → Prop} (has : ∀ a b, S a → S b → lt a b = true → lt b a = false) (hn : ∀ a b c, S a → S b → S c → lt a b = false → lt b c = false → lt a c = false) : ∀ l : List α, (∀ a ∈ l, S a) → (sortL lt l).Pairwise (fun a b => lt b a = false)
  | [], _ => .nil
  | x :: xs, hS => by
    rw [sortL]
    exact insL_pw has hn (hS x (List.mem_cons_self ..)) _ (fun a ha => hS a (List.mem_cons_of_mem _ ((sortL_perm lt xs).mem_iff.1 ha))) (sortL_pw has hn xs fun a ha => hS a (List.mem_cons_of_mem _ ha))
/-- plain cells and their values -/
theorem plain_val {η : Emb} : ∀ (τ : Row) (x : den τ), plainR τ = true → ∀ (j : Nat) c, (split τ x)[j]? = some c → ∀ v, VR η c v → (valsR τ x)[j]? = some v
  | .nil, _, _, j, c, hc, _, _ => by simp [split] at hc
  | .int k r, x, hp, j, c, hc, v, hv => by
    cases j with
    | zero => simp [split] at hc; subst hc; cases hv; simp [valsR]
    | succ j => rw [split, List.getElem?_cons_succ] at hc; rw [valsR, List.getElem?_cons_succ]; exact plain_val r x.2 hp j c hc v hv
  | .bool r, x, hp, j, c, hc, v, hv => by
    cases j with
    | zero => simp [split] at hc; subst hc; cases hv; simp [valsR]
    | succ j => rw [split, List.getElem?_cons_succ] at hc; rw [valsR, List.getElem?_cons_succ]; exact plain_val r x.2 hp j c hc v hv
  | .sl e r, _, hp, _, _, _, _, _ => by cases hp
theorem plain_vrs {η : Emb} : ∀ (τ : Row) (x : den τ), plainR τ = true → VRs η (split τ x) (valsR τ x)
  | .nil, _, _ => VRs.nil
  | .int k r, x, hp => VRs.cons (.int _ _) (plain_vrs r x.2 hp)
  | .bool r, x, hp => VRs.cons (.bool _) (plain_vrs r x.2 hp)
  | .sl e r, _, hp => by cases hp
theorem plain_one : ∀ (τ : Row) (x : den τ), plainR τ = true → ∀ v ∈ valsR τ x, v.oneCell' = true
  | .nil, _, _, v, hv => by simp [valsR] at hv
  | .int k r, x, hp, v, hv => by
    rw [valsR] at hv
    rcases List.mem_cons.1 hv with rfl | hv
    · rfl
    · exact plain_one r x.2 hp v hv
  | .bool r, x, hp, v, hv => by
    rw [valsR] at hv
    rcases List.mem_cons.1 hv with rfl | hv
    · rfl
    · exact plain_one r x.2 hp v hv
  | .sl e r, _, hp, _, _ => by cases hp
theorem plain_vrsL {η : Emb} {τ : Row} (hp : plainR τ = true) : ∀ xs : List (den τ), VRs η (flat τ xs) (valsL τ xs)
  | [] => VRs.nil
  | x :: xs => by rw [flat, valsL]; exact (plain_vrs τ x hp).append (plain_vrsL hp xs)
theorem plain_valL {η : Emb} {τ : Row} (hp : plainR τ = true) (xs : List (den τ)) (j : Nat) (c : LV) (hc : (flat τ xs)[j]? = some c) (v : Value) (hv : VR η c v) : (valsL τ xs)[j]? = some v := by
  have hl := (plain_vrsL (η := η) hp xs).1
  have hj : j < (valsL τ xs).length := by rw [← hl]; exact (List.getElem?_eq_some_iff.1 hc).1
  obtain ⟨u, hu⟩ : ∃ u, (valsL τ xs)[j]? = some u := ⟨_, List.getElem?_eq_getElem hj⟩
  have h2 := (plain_vrsL (η := η) hp xs).2 j c u hc hu
  obtain ⟨x, hx⟩ := mem_flat τ xs (List.mem_of_getElem? hc)
  have : u = v := by
    have hp2 : ∀ (σ : Row) (y : den σ), plainR σ = true → ∀ d ∈ split σ y, (∃ k n, d = .int k n) ∨ ∃ b, d = .bool b := by
      intro σ
      induction σ with
      | nil => intro y _ d hd; simp [split] at hd
      | int k r ih =>
        intro y hpp d hd
        rw [split] at hd
        rcases List.mem_cons.1 hd with rfl | hd
        · exact .inl ⟨_, _, rfl⟩
        · exact ih y.2 hpp d hd
      | bool r ih =>
        intro y hpp d hd
        rw [split] at hd
        rcases List.mem_cons.1 hd with rfl | hd
        · exact .inr ⟨_, rfl⟩
        · exact ih y.2 hpp d hd
      | sl e r _ _ => intro y hpp; cases hpp
    rcases hp2 τ x hp c hx with ⟨k, n, rfl⟩ | ⟨b, rfl⟩
    · cases h2; cases hv; rfl
    · cases h2; cases hv; rfl
  rw [hu, this]
theorem valsL_flatMap {τ : Row} : ∀ xs : List (den τ), valsL τ xs = xs.flatMap (valsR τ)
  | [] => rfl
  | x :: xs => by rw [valsL, List.flatMap_cons, valsL_flatMap xs]
/-- a live row is changed in place; behind the world there may be more -/
theorem adv_change {M : Nat} {H : LH} {η : Emb} {w w' : World} (h : HR M η H w) {b : Nat} {τ : Row} {xs ys : List (den τ)} (hg : H.get b = some (.rows τ xs)) (hlv : Lv η w' b (.rows τ ys)) (hs : w.heap.size ≤ w'.heap.size)
    (hother : ∀ k, k < w.heap.size → (∀ L, η.loc b = some L → k ≠ L.block) → w'.heap[k]? = w.heap[k]?) (e1 : w'.os = w.os) (e2 : w'.tape = w.tape) (e3 : w'.output = w.output) (e4 : w.drawn ≤ w'.drawn) :
    Adv M H η w (H.put b (some (.rows τ ys))) η w' := by
  have hget : ∀ x ob2, (H.put b (some (.rows τ ys))).get x = some ob2 → (x = b ∧ ob2 = .rows τ ys) ∨ (x ≠ b ∧ H.get x = some ob2) := fun x ob2 hx => by
    rw [LH.get_put] at hx
    split at hx
    · rename_i he; injection hx with hx; exact .inl ⟨he, hx.symm⟩
    · rename_i he; exact .inr ⟨he, hx⟩
  have hg0 : ∀ x ob2, (H.put b (some (.rows τ ys))).get x = some ob2 → ∃ ob0, H.get x = some ob0 := fun x ob2 hx => by
    rcases hget x ob2 hx with ⟨rfl, _⟩ | ⟨_, hg'⟩
    · exact ⟨_, hg⟩
    · exact ⟨_, hg'⟩
  have hlb : ∀ k, LB (H.put b (some (.rows τ ys))) η k → LB H η k := fun k ⟨x, ob2, L', hx, hL', hk⟩ => let ⟨ob0, hg'⟩ := hg0 _ _ hx; ⟨x, ob0, L', hg', hL', hk⟩
  refine ⟨Emb.le_refl _, fun _ _ => ⟨rfl, rfl⟩, Nat.le_refl _, ⟨h.dom, fun x ob2 hx => let ⟨_, hg'⟩ := hg0 x ob2 hx; h.lt x _ hg', fun x ob2 hx => ?_, fun b1 b2 c1 c2 L1 L2 h1 h2 f1 f2 he => ?_, fun k o2 hk => ?_, fun k hk => h.sep k (hlb k hk), h.ok⟩, hs, fun k hk hn => hother k hk fun L hL he => hn ⟨b, _, L, hg, hL, he.symm⟩,
    fun k hk => .inl (hlb k hk), fun _ _ hk => .inl hk, e1, e2, e3, e4⟩
  · rcases hget x ob2 hx with ⟨rfl, rfl⟩ | ⟨hne, hg'⟩
    · exact hlv
    · have hl := h.live x ob2 hg'
      exact hl.move (Emb.le_refl _) rfl hs fun L' hL' => hother _ (hl.lt hL') fun L hL he => hne (h.inj _ _ _ _ _ _ hg' hg hL' hL he)
  · obtain ⟨d1, g1⟩ := hg0 _ _ h1
    obtain ⟨d2, g2⟩ := hg0 _ _ h2
    exact h.inj _ _ _ _ _ _ g1 g2 f1 f2 he
  · have hk0 := h.fz k o2 hk
    rw [hother k (Array.getElem?_eq_some_iff.1 hk0).1 fun L hL he => by
      have := h.sep L.block ⟨b, _, L, hg, hL, rfl⟩
      rw [← he, hk] at this; cases this]
    exact hk0
section
variable {P : Program} {ρ : Ren}
theorem sort_swo {τ : Row} {F : den τ × den τ × Unit → Option Int} {xs : List (den τ)} (h : sortB F xs = true) :
    (∀ x ∈ xs, ∀ y ∈ xs, F (x, y, ()) = some (cmpV F x y)) ∧ SWO (ltOf fun (x y : {x : den τ // x ∈ xs}) => cmpV F x.1 y.1) ∧ ∀ x y : {x : den τ // x ∈ xs}, (ltOf fun (x y : {x : den τ // x ∈ xs}) => cmpV F x.1 y.1) x y = false → (ltOf fun (x y : {x : den τ // x ∈ xs}) => cmpV F x.1 y.1) y x = false → x = y := by
  unfold sortB at h
  simp only [Bool.and_eq_true, List.all_eq_true] at h
  obtain ⟨⟨⟨⟨h1, h2⟩, h3⟩, h4⟩, h5⟩ := h
  have e : ∀ x y : {x : den τ // x ∈ xs}, (ltOf fun (x y : {x : den τ // x ∈ xs}) => cmpV F x.1 y.1) x y = ltV F x.1 y.1 := fun _ _ => rfl
  refine ⟨fun x hx y hy => ?_, ⟨fun x => ?_, fun x y z a b => ?_, fun x y z a b => ?_⟩, fun x y a b => ?_⟩
  · have := h1 x hx y hy
    unfold cmpV
    cases hF : F (x, y, ()) with
    | none => rw [hF] at this; cases this
    | some n => rfl
  · have := h2 x.1 x.2
    rw [e]; simpa using this
  · rw [e] at a b ⊢
    have := h3 x.1 x.2 y.1 y.2
    rw [a] at this
    simp only [Bool.not_true, Bool.false_or, List.all_eq_true] at this
    have := this z.1 z.2
    rw [b] at this
    simpa using this
  · rw [e] at a b ⊢
    have := h4 x.1 x.2 y.1 y.2
    rw [a] at this
    simp only [Bool.false_or, List.all_eq_true] at this
    have := this z.1 z.2
    rw [b] at this
    simpa using this
  · rw [e] at a b
    have := h5 x.1 x.2 y.1 y.2
    rw [a, b] at this
    simp only [Bool.false_or] at this
    exact Subtype.ext (eqR_eq τ _ _ this)
theorem sort_attach {τ : Row} {F : den τ × den τ × Unit → Option Int} {xs : List (den τ)} (h : sortB F xs = true) : (xs.attach.mergeSort fun x y => !(ltOf fun (x y : {x : den τ // x ∈ xs}) => cmpV F x.1 y.1) y x).map Subtype.val = sortL (ltV F) xs := by
  obtain ⟨_, hO, hT⟩ := sort_swo h
  have e : ∀ x y : {x : den τ // x ∈ xs}, (ltOf fun (x y : {x : den τ // x ∈ xs}) => cmpV F x.1 y.1) x y = ltV F x.1 y.1 := fun _ _ => rfl
  have has : ∀ a b, a ∈ xs → b ∈ xs → ltV F a b = true → ltV F b a = false := fun a b ha hb h1 => by
    cases h2 : ltV F b a with
    | false => rfl
    | true =>
      have h3 := hO.trans ⟨a, ha⟩ ⟨b, hb⟩ ⟨a, ha⟩ h1 h2
      rw [hO.irrefl] at h3; cases h3
  have hn : ∀ a b c, a ∈ xs → b ∈ xs → c ∈ xs → ltV F a b = false → ltV F b c = false → ltV F a c = false := fun a b c ha hb hc h1 h2 => hO.ntrans ⟨a, ha⟩ ⟨b, hb⟩ ⟨c, hc⟩ h1 h2
  refine List.Perm.eq_of_pairwise (le := fun a b => ltV F b a = false) ?_ ?_ (sortL_pw (S := fun a => a ∈ xs) has hn xs fun _ h => h) ?_
  · intro a b ha hb h1 h2
    have ha' : a ∈ xs := by
      obtain ⟨c, _, rfl⟩ := List.mem_map.1 ha
      exact c.2
    have hb' : b ∈ xs := (sortL_perm (ltV F) xs).mem_iff.1 hb
    exact congrArg Subtype.val (hT ⟨a, ha'⟩ ⟨b, hb'⟩ h2 h1)
  · have hp := List.pairwise_mergeSort (le := fun x y => !(ltOf fun (x y : {x : den τ // x ∈ xs}) => cmpV F x.1 y.1) y x) (fun x y z h1 h2 => by
      simp only [Bool.not_eq_true'] at h1 h2 ⊢
      exact hO.ntrans z y x h2 h1) (fun x y => by
      simp only [Bool.or_eq_true, Bool.not_eq_true']
      cases h1 : (ltOf fun (x y : {x : den τ // x ∈ xs}) => cmpV F x.1 y.1) y x with
      | false => exact .inl rfl
      | true => exact .inr (has _ _ y.2 x.2 h1)) xs.attach
    rw [List.pairwise_map]
    exact hp.imp fun h => by simpa [e] using h
  · have h1 := ((List.mergeSort_perm xs.attach fun x y => !(ltOf fun (x y : {x : den τ // x ∈ xs}) => cmpV F x.1 y.1) y x).map Subtype.val)
    rw [List.attach_map_subtype_val] at h1
    exact h1.trans (sortL_perm (ltV F) xs).symm
theorem bel_ext' {w w' : World} (h : Bel w w') : ∃ q os', w' = grow (w.drewN q) os' := by
  obtain ⟨x, rfl⟩ := ext_of h
  exact ⟨x.drawn, x.objs, by unfold ext grow World.drewN; rfl⟩
theorem putRow_size (w : World) (m blk off : Nat) (Fv : Array Value) (os : Array Obj) : w.heap.size ≤ (grow (putRow id (Sort.ahead w m) blk off Fv) os).heap.size := by
  simp [grow, putRow, mapBlock, Sort.ahead]
theorem putRow_other (w : World) (m blk off : Nat) (Fv : Array Value) (os : Array Obj) (k : Nat) (hk : k < w.heap.size) (hne : k ≠ blk) : (grow (putRow id (Sort.ahead w m) blk off Fv) os).heap[k]? = w.heap[k]? := by
  simp only [grow]
  rw [Array.getElem?_append_left (by simpa [putRow, mapBlock, Sort.ahead] using hk)]
  simp [putRow, mapBlock, Sort.ahead, Array.getElem?_modify, Ne.symm hne]
theorem sort_sound (L : SlLaysF0.n6 P ρ) {τ : Row} (hp : plainR τ = true) (aE : ∀ w, (isAgg (ρ.t 24)).run P w = .ok true w) (zE : ∀ w, (Go.sizeOf (ρ.t 24)).run P w = .ok τ.size w) {g : FuncId} {F : den τ × den τ × Unit → Option Int}
    (hS : COK P ⟨g, [.row τ true, .row τ true], Int, F, fun r => (.int .i64 r, [])⟩) {H : LH} {n : Nat} {xs ys : List (den τ)} (hg : H.get n = some (.rows τ xs)) (hy : sortV F xs = some ys) :
    CallSound P (ρ.f 6) [.rs n, .fn g []] H (.tup [], H.put n (some (.rows τ ys))) := by
  unfold sortV at hy
  obtain ⟨hb, rfl⟩ := bif_none (A := some (sortL (ltV F) xs)) hy |>.imp id fun h => Option.some.inj h
  rw [Bool.and_eq_true] at hb
  have hsz := Nat.le_of_ble_eq_true hb.1
  obtain ⟨hc, hO, hT⟩ := sort_swo hb.2
  refine ⟨Logged.put _ hg _, fun M η w vs h hM hv => ?_⟩
  obtain ⟨v1, vs, rfl, q1, hv⟩ := hv.uncons
  obtain ⟨v2, vs, rfl, q2, hv⟩ := hv.uncons
  obtain rfl : vs = [] := by have := hv.1; simpa using this.symm
  cases q1 with
  | rs hh1 =>
  have hv2 : v2 = .func (.func g) #[] #[] := by
    cases q2 with
    | fn hl _ => rw [List.eq_nil_of_length_eq_zero hl.symm]
  subst hv2
  have hlen : ∀ l : List (den τ), (sortL (ltV F) l).length = l.length := fun l => (sortL_perm (ltV F) l).length_eq
  cases h.live _ _ hg with
  | none hL hh =>
    rename_i A
    rw [hh1] at hh; injection hh with hh; subst hh
    refine Calls.mono (AnyF.slices_SortFunc_none L A 0 (.func (.func g) #[] #[]) w) ?_
    rintro e w' ⟨rfl, rfl⟩
    refine ⟨_, η, rfl, vr_tup0, adv_change h hg ?_ (Nat.le_refl _) (fun _ _ _ => rfl) rfl rfl rfl (Nat.le_refl _)⟩
    have e0 : sortL (ltV F) ([] : List (den τ)) = [] := rfl
    rw [e0]
    exact .none hL hh1
  | rows hL ha hh hcap hr =>
    rename_i L0 c
    rw [hh1] at hh; injection hh with hh; subst hh
    by_cases h0 : xs = []
    · subst h0
      refine Calls.mono (AnyF.slices_SortFunc_none L (some ⟨L0.block, L0.base, none⟩) c (.func (.func g) #[] #[]) w) ?_
      rintro e w' ⟨rfl, rfl⟩
      refine ⟨_, η, rfl, vr_tup0, adv_change h hg ?_ (Nat.le_refl _) (fun _ _ _ => rfl) rfl rfl rfl (Nat.le_refl _)⟩
      have e0 : sortL (ltV F) ([] : List (den τ)) = [] := rfl
      rw [e0]
      exact .rows hL ha hh1 hcap hr
    · haveI : Inhabited {x : den τ // x ∈ xs} := ⟨⟨xs.head h0, List.head_mem h0⟩⟩
      have eg : ∀ args w, (callFunc g args).run P w = .ok (.enter g args) w := by
        obtain ⟨fn, bd, b1, b2, b3⟩ := hS.body
        intro args w
        have b4 : ¬ fn.body = none := by rw [b2]; simp
        have b1' : P.funcs[g]? = some fn := b1
        simp [callFunc, b1', b3, b4]
      have hk : ∀ x : {x : den τ // x ∈ xs}, (valsR τ x.1).length = τ.size := fun x => valsR_len τ hp x.1
      have hflat : ∀ m : List {x : den τ // x ∈ xs}, (flatK (fun x : {x : den τ // x ∈ xs} => valsR τ x.1) τ.size m.toArray).toList = valsL τ (m.map Subtype.val) := fun m => by
        rw [flatK_list2 _ _ hk, valsL_flatMap, List.flatMap_map]
      have hcmp : CmpLays P g #[] (fun x : {x : den τ // x ∈ xs} => valsR τ x.1) τ.size (fun x y => cmpV F x.1 y.1) L0.block L0.base xs.attach.toArray.size w := by
        intro m os dk _ x y
        have hF := hc x.1 x.2 y.1 y.2
        have h2 := hS.ok (x.1, y.1, ()) (cmpV F x.1 y.1) hF (sortWorldK (fun x : {x : den τ // x ∈ xs} => valsR τ x.1) τ.size w L0.block L0.base m dk os) (fun _ => none) [.agg (valsR τ x.1).toArray, .agg (valsR τ y.1).toArray] (fun k ob hk => by cases hk)
          (VRs.cons (VR.aggL (plain_vrs τ x.1 hp)) (VRs.cons (VR.aggL (plain_vrs τ y.1 hp)) VRs.nil))
        refine Calls.mono h2 ?_
        rintro e w' ⟨v', η', rfl, hvr, _, hfr⟩
        have hv' : v' = .int .i64 (cmpV F x.1 y.1) := by
          have hvr : VR η' (.int .i64 (cmpV F x.1 y.1)) v' := hvr
          cases hvr; rfl
        rw [hv']
        exact ⟨rfl, bel_ext' ⟨⟨hfr.os, hfr.tape, hfr.output, hfr.size, fun k hk => hfr.same k hk⟩, hfr.drawn⟩⟩
      have hfl : flatK (fun x : {x : den τ // x ∈ xs} => valsR τ x.1) τ.size xs.attach.toArray = (valsL τ xs).toArray := by
        apply Array.toList_inj.1
        rw [hflat, List.attach_map_subtype_val]
      have hfl2 : ∀ l : List (den τ), (flat τ l).length = (valsL τ l).length := fun l => (plain_vrsL (η := η) hp l).1
      have hH : HoldsK (fun x : {x : den τ // x ∈ xs} => valsR τ x.1) τ.size w L0.block L0.base xs.attach.toArray := by
        unfold HoldsK
        rw [hfl]
        intro j hj
        have hj' : j < (valsL τ xs).length := by simpa using hj
        obtain ⟨cl, hcl⟩ : ∃ cl, (flat τ xs)[j]? = some cl := ⟨_, List.getElem?_eq_getElem (by rw [hfl2]; exact hj')⟩
        obtain ⟨v, g1, g2⟩ := ha.cell j cl hcl
        have g3 := plain_valL hp xs j cl hcl v g2
        have hf := ha.fits
        refine ⟨?_, (ha.there (L0.base + j) (by omega) (by have := hfl2 xs; omega)).2⟩
        rw [g1]
        congr 1
        rw [getElem!_pos _ _ (by simpa using hj')]
        have := (List.getElem?_eq_some_iff.1 g3).2
        simp [this]
      have hcon := AnyQ.slices_SortFunc_total L τ.size aE zE (fun x : {x : den τ // x ∈ xs} => valsR τ x.1) hk (fun x v hv => plain_one τ x.1 hp v hv) (fun x y => cmpV F x.1 y.1) hO g #[] L0.block L0.base c xs.attach.toArray w eg hcmp hH ha.lt (by simp; omega) hT
      have hats : xs.attach.toArray.size = xs.length := by simp
      rw [hats] at hcon
      refine Calls.mono hcon ?_
      rintro e w' ⟨rfl, m, os, rfl⟩
      have hF : flatK (fun x : {x : den τ // x ∈ xs} => valsR τ x.1) τ.size (xs.attach.toArray.toList.mergeSort fun x y => !(ltOf fun (x y : {x : den τ // x ∈ xs}) => cmpV F x.1 y.1) y x).toArray = (valsL τ (sortL (ltV F) xs)).toArray := by
        apply Array.toList_inj.1
        rw [hflat]
        congr 1
        have := sort_attach hb.2
        simpa using this
      unfold sortWorldK putRowK
      rw [hF]
      have hvl : (valsL τ (sortL (ltV F) xs)).length = (valsL τ xs).length := by rw [valsL_len hp, valsL_len hp, hlen]
      have hyl := hlen xs
      unfold HoldsK at hH
      rw [hfl] at hH
      generalize sortL (ltV F) xs = ys at hvl hyl ⊢
      have hfit := ha.fits
      have hfx := hfl2 xs
      have hfy := hfl2 ys
      obtain ⟨W1, hW1⟩ : ∃ W1, putRow id (Sort.ahead w m) L0.block L0.base (valsL τ ys).toArray = W1 := ⟨_, rfl⟩
      have hsz1 : W1.heap.size = w.heap.size := by rw [← hW1]; simp [putRow, mapBlock, Sort.ahead]
      have hblk : (grow W1 os).heap[L0.block]? = W1.heap[L0.block]? := by
        simp only [grow]
        rw [Array.getElem?_append_left (by rw [hsz1]; exact ha.lt)]
      have hfr : ∀ j, W1.frozen? ⟨L0.block, j, none⟩ = w.frozen? ⟨L0.block, j, none⟩ := fun j => by rw [← hW1, frozen?_putRow]; rfl
      have hin : ∀ j, j < (valsL τ ys).length → W1.cell? ⟨L0.block, L0.base + j, none⟩ = some ((valsL τ ys).toArray[j]!) := fun j hj => by
        rw [← hW1]
        exact cell?_putRow id (Sort.ahead w m) L0.block L0.base (valsL τ xs).toArray (valsL τ ys).toArray hH (by simp [hvl]) j (by simpa using hj)
      have hout : ∀ j, L0.base + (valsL τ ys).length ≤ j → W1.cell? ⟨L0.block, j, none⟩ = w.cell? ⟨L0.block, j, none⟩ := fun j hj => by
        rw [← hW1, cell?_putRow_other id (Sort.ahead w m) L0.block L0.base (valsL τ ys).toArray ⟨L0.block, j, none⟩ (.inr (.inr (by simpa using hj)))]; rfl
      have hat2 : At η (grow W1 os) (flat τ ys) L0 := by
        refine ⟨?_, by omega, fun j h1 h2 => ⟨?_, ?_⟩, fun j c hcj => ?_⟩
        · have := ha.lt
          simp only [grow, Array.size_append]; omega
        · rw [cell_same hblk]
          by_cases hj : j < L0.base + (valsL τ ys).length
          · have := hin (j - L0.base) (by omega)
            rw [show L0.base + (j - L0.base) = j by omega] at this
            rw [this]; rfl
          · rw [hout j (by omega)]; exact (ha.there j h1 h2).1
        · rw [frozen_same hblk, hfr]; exact (ha.there j h1 h2).2
        · have hj : j < (valsL τ ys).length := by rw [← hfy]; exact (List.getElem?_eq_some_iff.1 hcj).1
          refine ⟨(valsL τ ys)[j], ?_, (plain_vrsL hp ys).2 j c _ hcj (List.getElem?_eq_getElem hj)⟩
          rw [cell_same hblk, hin j hj]
          congr 1
          rw [getElem!_pos _ _ (by simpa using hj)]
          simp
      subst hW1
      refine ⟨_, η, rfl, vr_tup0, adv_change h hg (.rows hL hat2 (by rw [hyl]; exact hh1) (by rw [hyl]; exact hcap) hr) ?_ (fun k hk hne => ?_) ?_ ?_ ?_ ?_⟩
      · exact putRow_size ..
      · exact putRow_other _ _ _ _ _ _ k hk (hne L0 hL)
      · rfl
      · rfl
      · rfl
      · simp [grow, putRow, mapBlock, Sort.ahead]
/-- calls of the sort (function f) with a comparator (function g), told ahead -/
def orcS (f g : FuncId) (τ : Row) (F : den τ × den τ × Unit → Option Int) (C : Orc) : Orc := fun h args H =>
  bif Nat.beq h f then (match args with
    | [.rs n, .fn g' []] => bif Nat.beq g' g then (match H.get n with
      | some (.rows σ xs) => if e : σ = τ then some ⟨List (den τ), sortV F (e ▸ xs), fun r => (.tup [], H.put n (some (.rows τ r)))⟩ else none
      | _ => none) else none
    | _ => none) else C h args H
theorem orcS_ok (L : SlLaysF0.n6 P ρ) {τ : Row} (hp : plainR τ = true) (aE : ∀ w, (isAgg (ρ.t 24)).run P w = .ok true w) (zE : ∀ w, (Go.sizeOf (ρ.t 24)).run P w = .ok τ.size w) {g : FuncId} {F : den τ × den τ × Unit → Option Int}
    (hS : COK P ⟨g, [.row τ true, .row τ true], Int, F, fun r => (.int .i64 r, [])⟩) (hbody : ∃ fn c, P.funcs[ρ.f 6]? = some fn ∧ fn.body = some c ∧ ¬ fn.name = "runtime.NumGoroutine") {C : Orc} (hC : OrcOK P C) : OrcOK P (orcS (ρ.f 6) g τ F C) := by
  have key : ∀ h args H p, orcS (ρ.f 6) g τ F C h args H = some p → (C h args H = some p) ∨ (h = ρ.f 6 ∧ ∃ n xs, args = [.rs n, .fn g []] ∧ H.get n = some (.rows τ xs) ∧ p = ⟨List (den τ), sortV F xs, fun r => (.tup [], H.put n (some (.rows τ r)))⟩) := by
    intro h args H p hp
    unfold orcS at hp
    rw [Bool.cond_eq_ite] at hp
    split at hp
    · rename_i he
      have he := Nat.eq_of_beq_eq_true he
      split at hp
      · rename_i n g'
        rw [Bool.cond_eq_ite] at hp
        split at hp
        · rename_i hg
          have hg := Nat.eq_of_beq_eq_true hg
          subst hg
          split at hp
          · rename_i σ xs hn
            split at hp
            · rename_i e
              subst e
              injection hp with hp
              exact .inr ⟨he, n, xs, rfl, hn, hp.symm⟩
            · cases hp
          · cases hp
        · cases hp
      · cases hp
    · exact .inl hp
  refine ⟨fun h args H p x hp' hx => ?_⟩
  rcases key h args H p hp' with h1 | ⟨rfl, n, xs, rfl, hn, rfl⟩
  · exact hC.call h args H p x h1 hx
  · exact .inl ⟨sort_sound L hp aE zE hS hn hx, hbody⟩
end
end Go.Tx

namespace Go.Tx
open Go Go.Pel
theorem own_at {w1 : World} {base : Nat} {e : TypeId} {τ : Row} (hp : plainR τ = true) {xs : List (den τ)} {A : Option Addr} {c : Nat} {vals : List Value} (ho : Own w1 base e τ.size A xs.length c vals) (hvals : valsL τ xs = vals) :
    ∃ L : Option Loc, (L = none → A = none ∧ c = 0 ∧ xs = []) ∧ ∀ l, L = some l → A = some ⟨l.block, l.base, none⟩ ∧ xs.length ≤ c ∧ l.base + c * τ.size ≤ l.lim ∧ l.base = 0 ∧ base ≤ l.block ∧ ∀ η, At η w1 (flat τ xs) l := by
  rcases Own.row ho with ⟨rfl, hn, rfl, hx⟩ | ⟨g, cur, rfl, hrow, hnc, htake⟩
  · exact ⟨none, fun _ => ⟨rfl, rfl, List.eq_nil_of_length_eq_zero hn⟩, fun l h => by cases h⟩
  · refine ⟨some ⟨g, 0, c * τ.size⟩, (fun h => by cases h), fun l h => ?_⟩
    injection h with h; subst h
    have hlen := hrow.len
    refine ⟨rfl, hnc, by simp, rfl, hrow.1, fun η => ⟨hrow.lt, ?_, fun j _ hj => ⟨?_, hrow.frozen j⟩, fun j cc hc => ?_⟩⟩
    · rw [flat_len]; show 0 + _ ≤ c * τ.size; have := Nat.mul_le_mul_right τ.size hnc; omega
    · have hj' : j < cur.length := by rw [hlen]; exact hj
      have := hrow.cell (List.getElem?_eq_getElem hj')
      rw [this]; rfl
    · obtain ⟨u, h3, h4⟩ := (vrs_valsL (η := η) hp xs).get hc
      refine ⟨u, ?_, h4⟩
      rw [hvals, ← htake, List.getElem?_take] at h3
      split at h3
      · have := hrow.cell h3; simpa using this
      · cases h3
/-- two rows of one's own -/
theorem gives_own2 {w : World} {φ : Nat → Option Obj} (hφ : ∀ k ob, φ k = some ob → w.heap[k]? = some ob) {τ σ : Row} (hp : plainR τ = true) (hq : plainR σ = true) {xs : List (den τ)} {ys : List (den σ)} {n m : Nat} (hn : xs.length = n) (hm : ys.length = m) {A B : Option Addr} {c d : Nat} {e f : TypeId} {y : Beyond} {vals vals' : List Value}
    (ho : Own (ext w y) w.heap.size e τ.size A n c vals) (ho' : Own (ext w y) w.heap.size f σ.size B m d vals') (hra : RowsApart A B) (hvals : valsL τ xs = vals) (hvals' : valsL σ ys = vals')
    {l : LV} {v : Value} (hv : ∀ η : Emb, η.hdr 0 = some (.slice A n c) → η.hdr 1 = some (.slice B m d) → VR η l v) : Gives w φ (l, [.rows τ xs, .rows σ ys]) (.returned v) (ext w y) := by
  subst hn; subst hm
  have hb := bel_ext w y
  have h2 : ∀ k ob, φ k = some ob → (ext w y).heap[k]? = some ob := fun k ob hk => by rw [hb.block k (Array.getElem?_eq_some_iff.1 (hφ k ob hk)).1]; exact hφ k ob hk
  have hlt : ∀ k ob, φ k = some ob → k < w.heap.size := fun k ob hk => (Array.getElem?_eq_some_iff.1 (hφ k ob hk)).1
  obtain ⟨L0, a0, b0⟩ := own_at hp ho hvals
  obtain ⟨L1, a1, b1⟩ := own_at hq ho' hvals'
  have get0 : ∀ (b : Nat) ob, (heapOf [Ob.rows τ xs, Ob.rows σ ys]).get b = some ob → (b = 0 ∧ ob = .rows τ xs) ∨ (b = 1 ∧ ob = .rows σ ys) := fun b ob h => by
    rw [get_heapOf] at h
    match b, h with
    | 0, h => simp at h; exact .inl ⟨rfl, h.symm⟩
    | 1, h => simp at h; exact .inr ⟨rfl, h.symm⟩
    | b + 2, h => simp at h
  let η : Emb := ⟨fun b => if b = 0 then L0 else if b = 1 then L1 else none, fun b => if b = 0 then some (.slice A xs.length c) else if b = 1 then some (.slice B ys.length d) else none, φ⟩
  have e0 : η.loc 0 = L0 := rfl
  have e1 : η.loc 1 = L1 := rfl
  have lv0 : Lv η (ext w y) 0 (.rows τ xs) := by
    cases hL : L0 with
    | none => obtain ⟨rfl, rfl, rfl⟩ := a0 hL; exact .none (A := none) (e0.trans hL) rfl
    | some l => obtain ⟨h1, h3, h4, _, _, h5⟩ := b0 l hL; exact .rows (e0.trans hL) (h5 η) (by subst h1; rfl) h3 h4
  have lv1 : Lv η (ext w y) 1 (.rows σ ys) := by
    cases hL : L1 with
    | none => obtain ⟨rfl, rfl, rfl⟩ := a1 hL; exact .none (A := none) (e1.trans hL) rfl
    | some l => obtain ⟨h1, h3, h4, _, _, h5⟩ := b1 l hL; exact .rows (e1.trans hL) (h5 η) (by subst h1; rfl) h3 h4
  have apart : ∀ l l', L0 = some l → L1 = some l' → l.block = l'.block → False := fun l l' h h' he => by
    obtain ⟨g1, _, _, g2, _⟩ := b0 l h
    obtain ⟨g3, _, _, g4, _⟩ := b1 l' h'
    refine hra l.block (by rw [g1, g2]) (by rw [g3, g4, he])
  have hlb : ∀ k, LB (heapOf [Ob.rows τ xs, Ob.rows σ ys]) η k → w.heap.size ≤ k := fun k ⟨b, ob, L, hb1, h, hk⟩ => by
    rcases get0 b ob hb1 with ⟨rfl, _⟩ | ⟨rfl, _⟩
    · rw [e0] at h; rw [← hk]; exact (b0 L h).2.2.2.2.1
    · rw [e1] at h; rw [← hk]; exact (b1 L h).2.2.2.2.1
  have hsep : ∀ k, LB (heapOf [Ob.rows τ xs, Ob.rows σ ys]) η k → φ k = none := fun k hk => by
    cases hf : φ k with
    | none => rfl
    | some ob => have := hlt k ob hf; have := hlb k hk; omega
  refine ⟨v, η, rfl, hv η rfl rfl, fun M => ⟨fun b hb1 _ => ?_, fun b ob h => ?_, fun b ob h => ?_, fun p q o1 o2 l1 l2 h1 h2 h3 h4 h5 => ?_, h2, hsep, fun b v h => ?_⟩,
    hb.size, fun k hk => hb.block k hk, hlb, fun _ _ h => h, fun _ _ h => .inl h, hb.os, hb.tape, hb.output, hb.mono, fun _ _ h => h.elim⟩
  · have hb1' : 2 ≤ b := hb1
    exact ⟨by show (if b = 0 then L0 else if b = 1 then L1 else none) = none; rw [if_neg (by omega), if_neg (by omega)], by show (if b = 0 then some (Value.slice A xs.length c) else if b = 1 then some (.slice B ys.length d) else none) = none; rw [if_neg (by omega), if_neg (by omega)]⟩
  · rcases get0 b ob h with ⟨rfl, _⟩ | ⟨rfl, _⟩
    · exact Nat.zero_lt_two
    · exact Nat.one_lt_two
  · rcases get0 b ob h with ⟨rfl, rfl⟩ | ⟨rfl, rfl⟩
    · exact lv0
    · exact lv1
  · rcases get0 p o1 h1 with ⟨rfl, _⟩ | ⟨rfl, _⟩ <;> rcases get0 q o2 h2 with ⟨rfl, _⟩ | ⟨rfl, _⟩
    · rfl
    · exact (apart l1 l2 h3 h4 h5).elim
    · exact (apart l2 l1 h4 h3 h5.symm).elim
    · rfl
  · show ∃ a n c, v = .slice a n c
    have h' : (if b = 0 then some (Value.slice A xs.length c) else if b = 1 then some (.slice B ys.length d) else none) = some v := h
    split at h'
    · injection h' with h'; exact ⟨_, _, _, h'.symm⟩
    · split at h'
      · injection h' with h'; exact ⟨_, _, _, h'.symm⟩
      · cases h'
/-- lists of numbers and rows -/
def unI (l : List Int) : List TI1 := l.map toI
def idsI (l : List TI1) : List Int := l.map fun x => x.1
def ptsL (l : List TP) : List Pt := l.map ofP
theorem idsI_unI (l : List Int) : idsI (unI l) = l := by
  unfold idsI unI; rw [List.map_map]; exact List.map_id _
theorem unI_idsI (l : List TI1) : unI (idsI l) = l := by
  unfold idsI unI; rw [List.map_map]; exact List.map_id _
theorem unI_len (l : List Int) : (unI l).length = l.length := List.length_map _
theorem idsI_len (l : List TI1) : (idsI l).length = l.length := List.length_map _
theorem ptsL_len (l : List TP) : (ptsL l).length = l.length := List.length_map _
theorem valsL_unI (l : List Int) : valsL RI (unI l) = vi l := by rw [valsL_int]; exact congrArg vi (idsI_unI l)
theorem vr_idsI {φ : Nat → Option Obj} {w : World} (hφ : ∀ k ob, φ k = some ob → w.heap[k]? = some ob) {l : List TI1} {v : Value} (hv : VR (Emb.fro φ) (.fz RI l) v) : ∃ A c, v = .slice A (idsI l).length c ∧ Sl w 1 A (idsI l).length c (vi (idsI l)) ∧ (A = none → c = 0) := vr_ints hφ hv
theorem vr_fld {φ : Nat → Option Obj} {w : World} (hφ : ∀ k ob, φ k = some ob → w.heap[k]? = some ob) {l : List TP} {v : Value} (hv : VR (Emb.fro φ) (.agg [.fz RP l]) v) : ∃ A c, v = .agg #[.slice A (ptsL l).length c] ∧ Sl w 3 A (ptsL l).length c (vp (ptsL l)) ∧ (A = none → c = 0) := vr_field hφ hv
theorem vr_bracket {φ : Nat → Option Obj} {w : World} (hφ : ∀ k ob, φ k = some ob → w.heap[k]? = some ob) {p q : List TI1} {v : Value} (hv : VR (Emb.fro φ) (.agg [.fz RI p, .fz RI q]) v) : ∃ A c B d, v = .agg #[.slice A (idsI p).length c, .slice B (idsI q).length d] ∧ Sl w 1 A (idsI p).length c (vi (idsI p)) ∧ Sl w 1 B (idsI q).length d (vi (idsI q)) ∧ (A = none → c = 0) ∧ (B = none → d = 0) := by
  cases hv with
  | agg hl hh =>
    obtain ⟨u1, u2, rfl, h1, h2⟩ := vrs2 ⟨hl, hh⟩
    obtain ⟨A, c, rfl, a1, a2⟩ := vr_idsI hφ h1
    obtain ⟨B, d, rfl, b1, b2⟩ := vr_idsI hφ h2
    exact ⟨A, c, B, d, rfl, a1, b1, a2, b2⟩
def i64B (n : Int) : Bool := decide (-9223372036854775808 ≤ n) && decide (n ≤ 9223372036854775807)
theorem i64B_iff {n : Int} (h : i64B n = true) : -9223372036854775808 ≤ n ∧ n ≤ 9223372036854775807 := by
  unfold i64B at h; simpa using h
def all64B (l : List Int) : Bool := l.all i64B
theorem all64B_iff {l : List Int} (h : all64B l = true) : ∀ x ∈ l, -9223372036854775808 ≤ x ∧ x ≤ 9223372036854775807 := fun x hx => i64B_iff (List.all_eq_true.1 h x hx)
theorem bif_some {α : Type} {c : Bool} {a r : α} (h : (bif c then some a else none) = some r) : c = true ∧ a = r := by
  cases c with
  | true => injection h with h; exact ⟨rfl, h⟩
  | false => cases h
theorem VR.rsI {η : Emb} {n : Nat} {v : Value} (h : η.hdr n = some v) : VR η (.rs n) v := by
  exact .rs h
theorem rowF_here {w : World} {b : Nat} : ∀ (τ : Row), plainR τ = true → ∀ (x : den τ) (o : Nat), (∀ (j : Nat) u, (valsR τ x)[j]? = some u → w.cell? ⟨b, o + j, none⟩ = some u) → RowF (fun k => w.heap[k]?) τ x b o
  | .nil, _, _, _, _ => trivial
  | .int k r, h, x, o, hc => ⟨by
      have := hc 0 _ (by rw [valsR]; rfl)
      rw [Nat.add_zero, cell_ob] at this
      cases hb : w.heap[b]? with
      | none => rw [hb] at this; cases this
      | some ob => rw [hb] at this; exact ⟨ob, hb, this⟩, rowF_here r h x.2 (o + 1) fun j u hu => by rw [show o + 1 + j = o + (j + 1) by omega]; exact hc (j + 1) u (by rw [valsR]; simpa using hu)⟩
  | .bool r, h, x, o, hc => ⟨by
      have := hc 0 _ (by rw [valsR]; rfl)
      rw [Nat.add_zero, cell_ob] at this
      cases hb : w.heap[b]? with
      | none => rw [hb] at this; cases this
      | some ob => rw [hb] at this; exact ⟨ob, hb, this⟩, rowF_here r h x.2 (o + 1) fun j u hu => by rw [show o + 1 + j = o + (j + 1) by omega]; exact hc (j + 1) u (by rw [valsR]; simpa using hu)⟩
  | .sl _ r, h, _, _, _ => by cases h
theorem valsL_at {τ : Row} (h : plainR τ = true) : ∀ (xs : List (den τ)) (i : Nat) x, xs[i]? = some x → ∀ (j : Nat) u, (valsR τ x)[j]? = some u → (valsL τ xs)[i * τ.size + j]? = some u
  | [], i, x, hx, j, u, hu => by simp at hx
  | y :: ys, 0, x, hx, j, u, hu => by
    simp only [List.getElem?_cons_zero, Option.some.injEq] at hx; subst hx
    rw [valsL, Nat.zero_mul, Nat.zero_add]
    have hj := (List.getElem?_eq_some_iff.1 hu).1
    rw [List.getElem?_append_left hj]; exact hu
  | y :: ys, i + 1, x, hx, j, u, hu => by
    rw [valsL]
    have hl := valsR_len τ h y
    rw [List.getElem?_append_right (by rw [hl, Nat.succ_mul]; omega), hl, show (i + 1) * τ.size + j - τ.size = i * τ.size + j by rw [Nat.succ_mul]; omega]
    exact valsL_at h ys i x (by simpa using hx) j u hu
/-- an argument's slice -/
theorem sl_fz {w : World} {τ : Row} (h : plainR τ = true) {xs : List (den τ)} {A : Option Addr} {n c : Nat} {vals : List Value} (hn : xs.length = n) (hv : valsL τ xs = vals) (hs : Sl w τ.size A n c vals) (h0 : A = none → c = 0) : VR (Emb.fro fun k => w.heap[k]?) (.fz τ xs) (.slice A n c) := by
  subst hn; subst hv
  refine .fz ⟨A, c, rfl, hs.1, h0, fun i x hx => ?_⟩
  have hi := (List.getElem?_eq_some_iff.1 hx).1
  obtain ⟨b, o, hA, _, hc⟩ := hs.2.2 (by omega)
  refine ⟨b, o, hA, rowF_here τ h x _ fun j u hu => ?_⟩
  rw [Nat.add_assoc]
  exact hc _ u (valsL_at h xs i x hx j u hu)
def toPs (l : List Pt) : List TP := l.map toP
theorem toPs_len (l : List Pt) : (toPs l).length = l.length := List.length_map _
theorem ptsL_toP (l : List Pt) : ptsL (toPs l) = l := by unfold ptsL toPs; rw [List.map_map]; exact List.map_id _
theorem valsL_toP (l : List Pt) : valsL RP (toPs l) = vp l := (valsL_pt (toPs l)).trans (congrArg vp (ptsL_toP l))
theorem sl_ints {w : World} {A : Option Addr} {c : Nat} {l : List Int} (hs : Sl w 1 A l.length c (vi l)) (h0 : A = none → c = 0) : VR (Emb.fro fun k => w.heap[k]?) (.fz RI (unI l)) (.slice A l.length c) := sl_fz (τ := RI) rfl (unI_len l) (valsL_unI l) hs h0
theorem sl_fld {w : World} {A : Option Addr} {c : Nat} {l : List Pt} (hs : Sl w 3 A l.length c (vp l)) (h0 : A = none → c = 0) : VR (Emb.fro fun k => w.heap[k]?) (.agg [.fz RP (toPs l)]) (.agg #[.slice A l.length c]) := VR.aggL (VRs.cons (sl_fz (τ := RP) rfl (toPs_len l) (valsL_toP l) hs h0) VRs.nil)
theorem sl_brk {w : World} {A B : Option Addr} {c d : Nat} {P W : List Int} (hs : Sl w 1 A P.length c (vi P)) (ht : Sl w 1 B W.length d (vi W)) (h0 : A = none → c = 0) (h1 : B = none → d = 0) : VR (Emb.fro fun k => w.heap[k]?) (.agg [.fz RI (unI P), .fz RI (unI W)]) (.agg #[.slice A P.length c, .slice B W.length d]) := VR.aggL (VRs.cons (sl_ints hs h0) (VRs.cons (sl_ints ht h1) VRs.nil))
theorem sl_rat {w : World} (n d : Int) : VR (Emb.fro fun k => w.heap[k]?) (.agg [.int .i64 n, .int .i64 d]) (.agg #[.int .i64 n, .int .i64 d]) := VR.aggL (VRs.cons (.int _ _) (VRs.cons (.int _ _) VRs.nil))
theorem vr_pts {φ : Nat → Option Obj} {w : World} (hφ : ∀ k ob, φ k = some ob → w.heap[k]? = some ob) {l : List TP} {v : Value} (hv : VR (Emb.fro φ) (.fz RP l) v) : ∃ A c, v = .slice A (ptsL l).length c ∧ Sl w 3 A (ptsL l).length c (vp (ptsL l)) ∧ (A = none → c = 0) := by
  obtain ⟨A, c, rfl, h1, h2⟩ := fz_sl hφ (τ := RP) rfl (by decide) hv
  have e1 : (ptsL l).length = l.length := ptsL_len l
  have h3 : Sl w 3 A l.length c (vp (ptsL l)) := by unfold ptsL; rw [← valsL_pt l]; exact h1
  exact ⟨A, c, by rw [e1]; rfl, by rw [e1]; exact h3, h2⟩
end Go.Tx

namespace Go.Pel
open Go Go.Tx
theorem ids_nodupI {l : List Pt} (h : incB l = true) : (l.map Pt.id).Nodup := by
  unfold List.Nodup
  rw [List.pairwise_iff_getElem]
  intro i j hi hj hij
  simp only [List.length_map] at hi hj
  have := inc_lt h hij (List.getElem?_eq_getElem hi) (List.getElem?_eq_getElem hj)
  simp; omega
theorem leads_key (p q : Pt) (n d : Int) : leads p q n d = true ↔ (q.a * d + q.b * n < p.a * d + p.b * n) ∨ (q.a * d + q.b * n = p.a * d + p.b * n ∧ (q.b < p.b ∨ (q.b = p.b ∧ p.id < q.id))) := by
  have e : farD p q n d = (p.a * d + p.b * n) - (q.a * d + q.b * n) := by unfold farD; rw [Int.sub_mul, Int.sub_mul]; omega
  unfold leads
  rw [e]
  generalize p.a * d + p.b * n = P
  generalize q.a * d + q.b * n = Q
  repeat' split
  all_goals simp only [decide_eq_true_eq]
  all_goals omega
def ordI (n d : Int) (l : List Pt) : List Pt := sortL (fun p q => leads p q n d) l
def fieldOrderI (l : List Pt) (n d : Int) : List Int × Int := if fieldChk l ≠ 0 then ([], fieldChk l) else if ratioChk n d ≠ 0 then ([], ratioChk n d) else ((ordI n d l).map Pt.id, 0)
theorem ordI_perm (n d : Int) (l : List Pt) : (ordI n d l).Perm l := sortL_perm _ l
theorem leads_f {p q : Pt} {n d : Int} (h : leads p q n d = false) : ¬ ((q.a * d + q.b * n < p.a * d + p.b * n) ∨ (q.a * d + q.b * n = p.a * d + p.b * n ∧ (q.b < p.b ∨ (q.b = p.b ∧ p.id < q.id)))) := by
  intro k; rw [(leads_key p q n d).2 k] at h; cases h
theorem ordI_pw (n d : Int) (l : List Pt) : (ordI n d l).Pairwise fun p q => leads q p n d = false := by
  refine sortL_pw (S := fun _ => True) (fun a b _ _ h => ?_) (fun a b c _ _ _ h1 h2 => ?_) l (fun _ _ => trivial)
  · rw [leads_key] at h
    rw [← Bool.not_eq_true, leads_key]; omega
  · have h1 := leads_f h1
    have h2 := leads_f h2
    rw [← Bool.not_eq_true, leads_key]; omega
theorem ordI_eq {n d : Int} {l : List Pt} (hinc : incB l = true) (hd : 1 ≤ d) : sortP n d l = ordI n d l := by
  refine List.Perm.eq_of_pairwise (le := fun p q => leads q p n d = false) ?_ ((sortP_pairwise (idsApart_inc hinc) (ids_nodupI hinc)).imp fun {a b} h => ?_) (ordI_pw n d l) ((sortP_perm n d l).trans (ordI_perm n d l).symm)
  · intro a b _ _ h k
    have h1 := leads_f h
    have h2 := leads_f k
    have e1 : a.b = b.b := by omega
    have e2 : a.id = b.id := by omega
    have e3 : a.a * d + a.b * n = b.a * d + b.b * n := by omega
    rw [e1] at e3
    have e4 : a.a * d = b.a * d := by omega
    have e5 := Int.eq_of_mul_eq_mul_right (by omega) e4
    obtain ⟨x, y, z⟩ := a
    obtain ⟨x', y', z'⟩ := b
    simp only at e1 e2 e5
    subst e1 e2 e5
    rfl
  · rw [leads_key] at h
    rw [← Bool.not_eq_true, leads_key]; omega
theorem order_I (l : List Pt) (n d : Int) : fieldOrder l n d = fieldOrderI l n d := by
  unfold fieldOrder fieldSorted fieldOrderI
  by_cases h1 : fieldChk l = 0
  · simp only [h1, ne_eq, not_true_eq_false, if_false]
    by_cases h2 : ratioChk n d = 0
    · simp only [h2, ne_eq, not_true_eq_false, if_false]
      rw [ordI_eq (fieldChk_zero h1).2.2 (ratioChk_zero h2).1]
    · simp only [h2, ne_eq, not_false_eq_true, if_true]
  · simp only [h1, ne_eq, not_false_eq_true, if_true]
end Go.Pel
namespace Go.Proofs.YtpojhcjdcbegiaaGreat
open Go Go.Tx Go.RowKit Go.Pel
theorem vr_quad {η : Emb} {a b c d : Int} {v : Value} (hv : VR η (.agg [.int .i64 a, .int .i64 b, .int .i64 c, .int .i64 d]) v) : v = .agg #[.int .i64 a, .int .i64 b, .int .i64 c, .int .i64 d] := by
  cases hv with
  | agg hl hh =>
    obtain ⟨u1, vs, rfl, h1, h⟩ := VRs.uncons ⟨hl, hh⟩
    obtain ⟨u2, vs, rfl, h2, h⟩ := VRs.uncons h
    obtain ⟨u3, u4, rfl, h3, h4⟩ := vrs2 h
    cases h1; cases h2; cases h3; cases h4; rfl
def sumB (a b c d : Int) : Bool := decide ((-9223372036854775808 ≤ a ∧ a < 9223372036854775808) ∧ (-9223372036854775808 ≤ b ∧ b < 9223372036854775808) ∧ (-9223372036854775808 ≤ c ∧ c < 9223372036854775808) ∧ (-9223372036854775808 ≤ d ∧ d < 9223372036854775808) ∧ (-38685626227668133590597632 ≤ a * b ∧ a * b ≤ 38685626227668133590597632) ∧ (-38685626227668133590597632 ≤ c * d ∧ c * d ≤ 38685626227668133590597632))
theorem sumB_any {a b c d : Int} (h : sumB a b c d = true) (w : World) : Calls Tryz.prog 26 #[.agg #[.int .i64 a, .int .i64 b, .int .i64 c, .int .i64 d]] w fun e w' => e = .returned (.agg #[.int .i64 ((a * b + c * d) / 18446744073709551616), .int .u64 ((a * b + c * d) % 18446744073709551616)]) ∧ ∃ x, w' = ext w x := by
  obtain ⟨h1, h2, h3, h4, h5, h6⟩ := of_decide_eq_true h
  exact sum_any a b c d w h1 h2 h3 h4 h5 h6
end Go.Proofs.YtpojhcjdcbegiaaGreat

namespace Go.Proofs.YtpojhcjdcbegiaaGreat
open Go Go.Tx Go.Pel Go.Proofs.Tryz
set_option maxRecDepth 100000
set_option maxHeartbeats 0
theorem or_dec {p : Prop} [Decidable p] {b : Bool} (h : (decide p || b) = true) : p ∨ b = true := by simpa using h
abbrev course_Ahead_ps : List Pk := [.row Riii true, .row Riii true, .row Rii true]
abbrev course_Ahead_X : Type := Diii × Diii × Dii × Unit
abbrev course_Ahead_R : Type := Bool × Int
def course_Ahead_enc (r : course_Ahead_R) : LV × List Ob := (.tup [.bool r.1, .int .i64 r.2], [])
def course_Ahead_sp (F : course_Ahead_X → Option course_Ahead_R) : Go.Tx.Spec := ⟨52, course_Ahead_ps, course_Ahead_R, F, course_Ahead_enc⟩
def course_Ahead_if (x : course_Ahead_X) : Bool := i64B x.2.2.1.1 && i64B x.2.2.1.2.1
def F_course_Ahead (d : Nat) (x : course_Ahead_X) : Option course_Ahead_R := bif course_Ahead_if x then some ((aheadV (ofP x.1) (ofP x.2.1) x.2.2.1.1 x.2.2.1.2.1).1, (aheadV (ofP x.1) (ofP x.2.1) x.2.2.1.1 x.2.2.1.2.1).2) else none
theorem F_course_Ahead_eq (d : Nat) (x : course_Ahead_X) (h : course_Ahead_if x = true) : F_course_Ahead d x = some ((aheadV (ofP x.1) (ofP x.2.1) x.2.2.1.1 x.2.2.1.2.1).1, (aheadV (ofP x.1) (ofP x.2.1) x.2.2.1.1 x.2.2.1.2.1).2) := by unfold F_course_Ahead; rw [h]; rfl
theorem course_Ahead_cok (d : Nat) : COK prog (course_Ahead_sp (F_course_Ahead d)) := by
  refine cok_old (body_of (fn := f52) (by kernel_rfl) (by kernel_rfl) (by kernel_rfl)) fun x r hx w φ vs hφ hv => ?_
  have hx : F_course_Ahead d x = some r := hx
  unfold F_course_Ahead at hx
  obtain ⟨hc, rfl⟩ := bif_some hx
  have hv : VRs (Emb.fro φ) [.agg [.int .i64 x.1.1, .int .i64 x.1.2.1, .int .i64 x.1.2.2.1], .agg [.int .i64 x.2.1.1, .int .i64 x.2.1.2.1, .int .i64 x.2.1.2.2.1], .agg [.int .i64 x.2.2.1.1, .int .i64 x.2.2.1.2.1]] vs := hv
  obtain ⟨v0, vs, rfl, q0, hv⟩ := VRs.uncons hv
  obtain ⟨v1, vs, rfl, q1, hv⟩ := VRs.uncons hv
  obtain ⟨v2, rfl, q2⟩ := vrs1 hv
  have r0 := vr_point (p := x.1) q0; subst r0
  have r1 := vr_point (p := x.2.1) q1; subst r1
  have r2 := vr_ratio q2; subst r2
  unfold course_Ahead_if at hc
  simp only [Bool.and_eq_true] at hc
  obtain ⟨h1, h2⟩ := hc
  refine (ahead_any (ofP x.1) (ofP x.2.1) x.2.2.1.1 x.2.2.1.2.1 w (i64B_iff h1) (i64B_iff h2)).mono ?_
  rintro e w' ⟨rfl, y, rfl⟩
  exact gives_pure hφ (VR.tupL (VRs.cons (.bool _) (VRs.cons (.int _ _) VRs.nil))) y
abbrev field_Check_ps : List Pk := [.row RLiiiE true]
abbrev field_Check_X : Type := DLiiiE × Unit
abbrev field_Check_R : Type := Int
def field_Check_enc (r : field_Check_R) : LV × List Ob := (.int .i64 r, [])
def field_Check_sp (F : field_Check_X → Option field_Check_R) : Go.Tx.Spec := ⟨48, field_Check_ps, field_Check_R, F, field_Check_enc⟩
def field_Check_if (x : field_Check_X) : Bool := true
def F_field_Check (d : Nat) (x : field_Check_X) : Option field_Check_R := bif field_Check_if x then some (fieldChk (ptsL x.1.1)) else none
theorem F_field_Check_eq (d : Nat) (x : field_Check_X) (h : field_Check_if x = true) : F_field_Check d x = some (fieldChk (ptsL x.1.1)) := by unfold F_field_Check; rw [h]; rfl
theorem field_Check_cok (d : Nat) : COK prog (field_Check_sp (F_field_Check d)) := by
  refine cok_old (body_of (fn := f48) (by kernel_rfl) (by kernel_rfl) (by kernel_rfl)) fun x r hx w φ vs hφ hv => ?_
  have hx : F_field_Check d x = some r := hx
  unfold F_field_Check at hx
  obtain ⟨hc, rfl⟩ := bif_some hx
  have hv : VRs (Emb.fro φ) [.agg [.fz RP x.1.1]] vs := hv
  obtain ⟨v0, rfl, q0⟩ := vrs1 hv
  obtain ⟨A0, c0, rfl, s0, z0⟩ := vr_fld hφ q0
  refine (fieldCheck_any A0 c0 (ptsL x.1.1) w s0).mono ?_
  rintro e w' ⟨rfl, y, rfl⟩
  exact gives_pure hφ (.int _ _) y
abbrev field_Find_ps : List Pk := [.row RLiiiE true, .row Ri false]
abbrev field_Find_X : Type := DLiiiE × Di × Unit
abbrev field_Find_R : Type := Int × Int × Int × Int
def field_Find_enc (r : field_Find_R) : LV × List Ob := (.tup [.agg [.int .i64 r.1, .int .i64 r.2.1, .int .i64 r.2.2.1], .int .i64 r.2.2.2], [])
def field_Find_sp (F : field_Find_X → Option field_Find_R) : Go.Tx.Spec := ⟨23, field_Find_ps, field_Find_R, F, field_Find_enc⟩
def field_Find_if (x : field_Find_X) : Bool := true
def F_field_Find (d : Nat) (x : field_Find_X) : Option field_Find_R := bif field_Find_if x then some ((fieldFind (ptsL x.1.1) x.2.1.1).1.id, (fieldFind (ptsL x.1.1) x.2.1.1).1.a, (fieldFind (ptsL x.1.1) x.2.1.1).1.b, (fieldFind (ptsL x.1.1) x.2.1.1).2) else none
theorem F_field_Find_eq (d : Nat) (x : field_Find_X) (h : field_Find_if x = true) : F_field_Find d x = some ((fieldFind (ptsL x.1.1) x.2.1.1).1.id, (fieldFind (ptsL x.1.1) x.2.1.1).1.a, (fieldFind (ptsL x.1.1) x.2.1.1).1.b, (fieldFind (ptsL x.1.1) x.2.1.1).2) := by unfold F_field_Find; rw [h]; rfl
theorem field_Find_cok (d : Nat) : COK prog (field_Find_sp (F_field_Find d)) := by
  refine cok_old (body_of (fn := f23) (by kernel_rfl) (by kernel_rfl) (by kernel_rfl)) fun x r hx w φ vs hφ hv => ?_
  have hx : F_field_Find d x = some r := hx
  unfold F_field_Find at hx
  obtain ⟨hc, rfl⟩ := bif_some hx
  have hv : VRs (Emb.fro φ) [.agg [.fz RP x.1.1], .int .i64 x.2.1.1] vs := hv
  obtain ⟨v0, vs, rfl, q0, hv⟩ := VRs.uncons hv
  obtain ⟨v1, rfl, q1⟩ := vrs1 hv
  obtain ⟨A0, c0, rfl, s0, z0⟩ := vr_fld hφ q0
  have r1 := vr_int q1; subst r1
  refine (fieldFind_any A0 c0 (ptsL x.1.1) x.2.1.1 w s0).mono ?_
  rintro e w' ⟨rfl, y, rfl⟩
  exact gives_pure hφ (VR.tupL (VRs.cons (VR.aggL (VRs.cons (.int _ _) (VRs.cons (.int _ _) (VRs.cons (.int _ _) VRs.nil)))) (VRs.cons (.int _ _) VRs.nil))) y
abbrev course_sum_ps : List Pk := [.row Riiii true]
abbrev course_sum_X : Type := Diiii × Unit
abbrev course_sum_R : Type := Int × Int
def course_sum_enc (r : course_sum_R) : LV × List Ob := (.agg [.int .i64 r.1, .int .u64 r.2], [])
def course_sum_sp (F : course_sum_X → Option course_sum_R) : Go.Tx.Spec := ⟨26, course_sum_ps, course_sum_R, F, course_sum_enc⟩
def course_sum_if (x : course_sum_X) : Bool := sumB x.1.1 x.1.2.1 x.1.2.2.1 x.1.2.2.2.1
def F_course_sum (d : Nat) (x : course_sum_X) : Option course_sum_R := bif course_sum_if x then some ((x.1.1 * x.1.2.1 + x.1.2.2.1 * x.1.2.2.2.1) / 18446744073709551616, (x.1.1 * x.1.2.1 + x.1.2.2.1 * x.1.2.2.2.1) % 18446744073709551616) else none
theorem F_course_sum_eq (d : Nat) (x : course_sum_X) (h : course_sum_if x = true) : F_course_sum d x = some ((x.1.1 * x.1.2.1 + x.1.2.2.1 * x.1.2.2.2.1) / 18446744073709551616, (x.1.1 * x.1.2.1 + x.1.2.2.1 * x.1.2.2.2.1) % 18446744073709551616) := by unfold F_course_sum; rw [h]; rfl
theorem course_sum_cok (d : Nat) : COK prog (course_sum_sp (F_course_sum d)) := by
  refine cok_old (body_of (fn := f26) (by kernel_rfl) (by kernel_rfl) (by kernel_rfl)) fun x r hx w φ vs hφ hv => ?_
  have hx : F_course_sum d x = some r := hx
  unfold F_course_sum at hx
  obtain ⟨hc, rfl⟩ := bif_some hx
  have hv : VRs (Emb.fro φ) [.agg [.int .i64 x.1.1, .int .i64 x.1.2.1, .int .i64 x.1.2.2.1, .int .i64 x.1.2.2.2.1]] vs := hv
  obtain ⟨v0, rfl, q0⟩ := vrs1 hv
  have r0 := vr_quad q0; subst r0
  unfold course_sum_if at hc
  have h1 := hc
  refine (sumB_any h1 w).mono ?_
  rintro e w' ⟨rfl, y, rfl⟩
  exact gives_pure hφ (VR.aggL (VRs.cons (.int _ _) (VRs.cons (.int _ _) VRs.nil))) y
abbrev field_Order_ps : List Pk := [.row RLiiiE true, .row Rii true]
abbrev field_Order_X : Type := DLiiiE × Dii × Unit
abbrev field_Order_R : Type := List Di × Int
def field_Order_enc (r : field_Order_R) : LV × List Ob := (.tup [.rs 0, .int .i64 r.2], [.rows Ri r.1])
def field_Order_sp (F : field_Order_X → Option field_Order_R) : Go.Tx.Spec := ⟨22, field_Order_ps, field_Order_R, F, field_Order_enc⟩
def field_Order_if (x : field_Order_X) : Bool := i64B x.2.1.1 && i64B x.2.1.2.1 && decide ((ptsL x.1.1).length ≤ 1000000)
def F_field_Order (d : Nat) (x : field_Order_X) : Option field_Order_R := bif field_Order_if x then some (unI (fieldOrderI (ptsL x.1.1) x.2.1.1 x.2.1.2.1).1, (fieldOrderI (ptsL x.1.1) x.2.1.1 x.2.1.2.1).2) else none
theorem F_field_Order_eq (d : Nat) (x : field_Order_X) (h : field_Order_if x = true) : F_field_Order d x = some (unI (fieldOrderI (ptsL x.1.1) x.2.1.1 x.2.1.2.1).1, (fieldOrderI (ptsL x.1.1) x.2.1.1 x.2.1.2.1).2) := by unfold F_field_Order; rw [h]; rfl
theorem field_Order_cok (d : Nat) : COK prog (field_Order_sp (F_field_Order d)) := by
  refine cok_old (body_of (fn := f22) (by kernel_rfl) (by kernel_rfl) (by kernel_rfl)) fun x r hx w φ vs hφ hv => ?_
  have hx : F_field_Order d x = some r := hx
  unfold F_field_Order at hx
  obtain ⟨hc, rfl⟩ := bif_some hx
  have hv : VRs (Emb.fro φ) [.agg [.fz RP x.1.1], .agg [.int .i64 x.2.1.1, .int .i64 x.2.1.2.1]] vs := hv
  obtain ⟨v0, vs, rfl, q0, hv⟩ := VRs.uncons hv
  obtain ⟨v1, rfl, q1⟩ := vrs1 hv
  obtain ⟨A0, c0, rfl, s0, z0⟩ := vr_fld hφ q0
  have r1 := vr_ratio q1; subst r1
  unfold field_Order_if at hc
  simp only [Bool.and_eq_true] at hc
  obtain ⟨⟨h1, h2⟩, h3⟩ := hc
  replace h3 := of_decide_eq_true h3
  refine ((order_I (ptsL x.1.1) x.2.1.1 x.2.1.2.1) ▸ order_any A0 c0 (ptsL x.1.1) x.2.1.1 x.2.1.2.1 w (i64B_iff h1) (i64B_iff h2) s0 z0 h3).mono ?_
  rintro e w' ⟨A', c', rfl, y, rfl, ho⟩
  exact gives_own hφ (τ := Ri) rfl (unI_len _) ho (valsL_unI _) fun η e0 => VR.tupL (VRs.cons (.rs e0) (VRs.cons (.int _ _) VRs.nil))
end Go.Proofs.YtpojhcjdcbegiaaGreat

namespace Go.Tx
open Go
def add64V (x y c : Int) : Option (Int × Int) := bif decide (0 ≤ x) && decide (x < 18446744073709551616) && decide (0 ≤ y) && decide (y < 18446744073709551616) && decide (0 ≤ c) && decide (c ≤ 1) then some ((x + y + c) % 18446744073709551616, (x + y + c) / 18446744073709551616) else none
def sub64V (x y c : Int) : Option (Int × Int) := bif decide (0 ≤ x) && decide (x < 18446744073709551616) && decide (0 ≤ y) && decide (y < 18446744073709551616) && decide (0 ≤ c) && decide (c ≤ 1) then some ((x - y - c) % 18446744073709551616, bif decide (x < y + c) then 1 else 0) else none
/-- calls of the function f, which gives two numbers of 64 bits at once -/
def orcI (f : FuncId) (G : Int → Int → Int → Option (Int × Int)) (C : Orc) : Orc := fun h args H =>
  bif Nat.beq h f then (match args with
    | [.int .u64 x, .int .u64 y, .int .u64 c] => some ⟨Int × Int, G x y c, fun r => (.tup [.int .u64 r.1, .int .u64 r.2], H)⟩
    | _ => none) else C h args H
theorem orcI_ok {P : Program} {f : FuncId} {G : Int → Int → Int → Option (Int × Int)} (hG : ∀ x y c r, G x y c = some r → ∀ w, (callFunc f #[.int .u64 x, .int .u64 y, .int .u64 c]).run P w = .ok (.value (.tuple #[.int .u64 r.1, .int .u64 r.2])) w) {C : Orc} (hC : OrcOK P C) : OrcOK P (orcI f G C) := by
  refine ⟨fun h args H p x hp hx => ?_⟩
  unfold orcI at hp
  rw [Bool.cond_eq_ite] at hp
  split at hp
  · rename_i he
    have he := Nat.eq_of_beq_eq_true he
    subst he
    split at hp
    · rename_i x0 y0 c0
      injection hp with hp; subst hp
      refine .inr ⟨rfl, fun η w vs hv => ?_⟩
      obtain ⟨v0, vs', rfl, q0, hv⟩ := hv.uncons
      obtain ⟨v1, v2, rfl, q1, q2⟩ := vrs2 hv
      cases q0; cases q1; cases q2
      exact ⟨_, hG x0 y0 c0 x hx w, .tup rfl (VRs.cons (.int _ _) (VRs.cons (.int _ _) VRs.nil)).2⟩
    · cases hp
  · exact hC.call h args H p x hp hx
theorem add64_nat {x y c : Int} {r : Int × Int} (h : add64V x y c = some r) : ∃ a b d : Nat, x = a ∧ y = b ∧ c = d ∧ a < 18446744073709551616 ∧ b < 18446744073709551616 ∧ d ≤ 1 ∧ r = ((((a + b + d) % 18446744073709551616 : Nat) : Int), (((a + b + d) / 18446744073709551616 : Nat) : Int)) := by
  unfold add64V at h
  rw [Bool.cond_eq_ite] at h
  split at h
  · rename_i hc
    simp only [Bool.and_eq_true, decide_eq_true_eq] at hc
    injection h with h
    refine ⟨x.toNat, y.toNat, c.toNat, by omega, by omega, by omega, by omega, by omega, by omega, ?_⟩
    rw [← h]
    refine Prod.ext ?_ ?_ <;> simp only <;> omega
  · cases h
theorem sub64_nat {x y c : Int} {r : Int × Int} (h : sub64V x y c = some r) : ∃ a b d : Nat, x = a ∧ y = b ∧ c = d ∧ a < 18446744073709551616 ∧ b < 18446744073709551616 ∧ d ≤ 1 ∧ r = ((((a + 18446744073709551616 - b - d) % 18446744073709551616 : Nat) : Int), ((if a < b + d then 1 else 0 : Nat) : Int)) := by
  unfold sub64V at h
  rw [Bool.cond_eq_ite] at h
  split at h
  · rename_i hc
    simp only [Bool.and_eq_true, decide_eq_true_eq] at hc
    injection h with h
    refine ⟨x.toNat, y.toNat, c.toNat, by omega, by omega, by omega, by omega, by omega, by omega, ?_⟩
    rw [← h]
    refine Prod.ext ?_ ?_
    · simp only; omega
    · simp only [Bool.cond_eq_ite, decide_eq_true_eq]
      split <;> split <;> first | rfl | omega
  · cases h
end Go.Tx

namespace Go.Proofs.YtpojhcjdcbegiaaGreat
open Go Go.Tx Go.Proofs.Tryz
theorem add64_imm : ∀ x y c r, add64V x y c = some r → ∀ w, (callFunc 39 #[.int .u64 x, .int .u64 y, .int .u64 c]).run Tryz.prog w = .ok (.value (.tuple #[.int .u64 r.1, .int .u64 r.2])) w := by
  intro x y c r h w
  obtain ⟨a, b, d, rfl, rfl, rfl, ha, hb, hd, rfl⟩ := add64_nat h
  rw [run_callFunc_extern Tryz.func39 (by kernel_rfl) (by kernel_rfl) (by kernel_rfl) (e := add64Entry) (by kernel_rfl), run_add64 a b d (by omega) (by omega) (by omega) (by omega)]
  simp only [Result.andThen]
  congr 5 <;> omega
theorem sub64_imm : ∀ x y c r, sub64V x y c = some r → ∀ w, (callFunc 27 #[.int .u64 x, .int .u64 y, .int .u64 c]).run Tryz.prog w = .ok (.value (.tuple #[.int .u64 r.1, .int .u64 r.2])) w := by
  intro x y c r h w
  obtain ⟨a, b, d, rfl, rfl, rfl, ha, hb, hd, rfl⟩ := sub64_nat h
  rw [run_callFunc_extern Tryz.func27 (by kernel_rfl) (by kernel_rfl) (by kernel_rfl) (e := sub64Entry) (by kernel_rfl), run_sub64 a b d hd]
  rfl
end Go.Proofs.YtpojhcjdcbegiaaGreat

namespace Go.Proofs
open Go.Shelf
def Tryz.laysSortM_ren : Go.Shelf.Ren := ⟨fun | 6 => 59 | 15 => 64 | 14 => 74 | 28 => 84 | 29 => 54 | 20 => 88 | 21 => 89 | 22 => 90 | 23 => 91 | 24 => 92 | 25 => 93 | 26 => 94 | 27 => 95 | 46 => 102 | 47 => 97 | 48 => 98 | 49 => 103 | 50 => 104 | 57 => 106 | n => n, fun | 22 => 77 | 24 => 81 | 25 => 118 | 3 => 3 | 39 => 91 | 0 => 0 | 53 => 142 | 55 => 67 | 4 => 4 | 46 => 136 | 45 => 135 | 50 => 109 | 5 => 5 | 9 => 9 | 66 => 151 | 70 => 155 | 76 => 159 | 77 => 160 | n => n, fun | n => n⟩
theorem Tryz.laysSortM : Go.Proofs.SlLaysF0.n6 Tryz.prog Tryz.laysSortM_ren := {
  mixed := by kernel_rfl
  f6 := ⟨Tryz.f59.name, by decide, Tryz.func59.trans (congrArg some (by kernel_rfl))⟩
  f14 := ⟨Tryz.f74.name, by decide, Tryz.func74.trans (congrArg some (by kernel_rfl))⟩
  f15 := Tryz.func64.trans (congrArg some (by kernel_rfl))
  f20 := ⟨Tryz.f88.name, by decide, Tryz.func88.trans (congrArg some (by kernel_rfl))⟩
  f21 := ⟨Tryz.f89.name, by decide, Tryz.func89.trans (congrArg some (by kernel_rfl))⟩
  f22 := ⟨Tryz.f90.name, by decide, Tryz.func90.trans (congrArg some (by kernel_rfl))⟩
  f23 := ⟨Tryz.f91.name, by decide, Tryz.func91.trans (congrArg some (by kernel_rfl))⟩
  f24 := ⟨Tryz.f92.name, by decide, Tryz.func92.trans (congrArg some (by kernel_rfl))⟩
  f25 := ⟨Tryz.f93.name, by decide, Tryz.func93.trans (congrArg some (by kernel_rfl))⟩
  f26 := ⟨Tryz.f94.name, by decide, Tryz.func94.trans (congrArg some (by kernel_rfl))⟩
  f27 := ⟨Tryz.f95.name, by decide, Tryz.func95.trans (congrArg some (by kernel_rfl))⟩
  f28 := Tryz.func84.trans (congrArg some (by kernel_rfl))
  f29 := Tryz.func54.trans (congrArg some (by kernel_rfl))
  f46 := ⟨Tryz.f102.name, by decide, Tryz.func102.trans (congrArg some (by kernel_rfl))⟩
  f47 := Tryz.func97.trans (congrArg some (by kernel_rfl))
  f48 := Tryz.func98.trans (congrArg some (by kernel_rfl))
  f49 := ⟨Tryz.f103.name, by decide, Tryz.func103.trans (congrArg some (by kernel_rfl))⟩
  f50 := ⟨Tryz.f104.name, by decide, Tryz.func104.trans (congrArg some (by kernel_rfl))⟩
  f57 := ⟨Tryz.f106.name, by decide, Tryz.func106.trans (congrArg some (by kernel_rfl))⟩
  t0 := Tryz.underlying0
  a0 := Tryz.isAgg0
  z0 := Tryz.sizeOf0
  v0 := Tryz.zeroValue0
  t3 := Tryz.underlying3
  a3 := Tryz.isAgg3
  z3 := Tryz.sizeOf3
  v3 := Tryz.zeroValue3
  t4 := Tryz.underlying4
  a4 := Tryz.isAgg4
  z4 := Tryz.sizeOf4
  v4 := Tryz.zeroValue4
  t5 := Tryz.underlying5
  a5 := Tryz.isAgg5
  z5 := Tryz.sizeOf5
  v5 := Tryz.zeroValue5
  t9 := Tryz.underlying9
  a9 := Tryz.isAgg9
  z9 := Tryz.sizeOf9
  v9 := Tryz.zeroValue9
  t22 := Tryz.underlying77
  a22 := Tryz.isAgg77
  z22 := Tryz.sizeOf77
  v22 := Tryz.zeroValue77
  t25 := Tryz.underlying118
  a25 := Tryz.isAgg118
  z25 := Tryz.sizeOf118
  v25 := Tryz.zeroValue118
  t39 := Tryz.underlying91
  a39 := Tryz.isAgg91
  z39 := Tryz.sizeOf91
  v39 := Tryz.zeroValue91
  t45 := Tryz.underlying135
  a45 := Tryz.isAgg135
  z45 := Tryz.sizeOf135
  v45 := Tryz.zeroValue135
  t46 := Tryz.underlying136
  a46 := Tryz.isAgg136
  z46 := Tryz.sizeOf136
  v46 := Tryz.zeroValue136
  t50 := Tryz.underlying109
  a50 := Tryz.isAgg109
  z50 := Tryz.sizeOf109
  v50 := Tryz.zeroValue109
  t53 := Tryz.underlying142
  a53 := Tryz.isAgg142
  z53 := Tryz.sizeOf142
  v53 := Tryz.zeroValue142
  t55 := Tryz.underlying67
  a55 := Tryz.isAgg67
  z55 := Tryz.sizeOf67
  v55 := Tryz.zeroValue67
  t66 := Tryz.underlying151
  a66 := Tryz.isAgg151
  z66 := Tryz.sizeOf151
  v66 := Tryz.zeroValue151
  t70 := Tryz.underlying155
  a70 := Tryz.isAgg155
  z70 := Tryz.sizeOf155
  v70 := Tryz.zeroValue155
  t76 := Tryz.underlying159
  a76 := Tryz.isAgg159
  z76 := Tryz.sizeOf159
  v76 := Tryz.zeroValue159
  t77 := Tryz.underlying160
  a77 := Tryz.isAgg160
  z77 := Tryz.sizeOf160
  v77 := Tryz.zeroValue160 }
end Go.Proofs

namespace Go.Proofs.YtpojhcjdcbegiaaGreat
open Go Go.Tx Go.Proofs.Tryz
theorem sort_api_Meeting_ok {g : FuncId} {F : den Riiii × den Riiii × Unit → Option Int} (hS : COK prog ⟨g, [.row Riiii true, .row Riiii true], Int, F, fun r => (.int .i64 r, [])⟩) {C : Orc} (hC : OrcOK prog C) : OrcOK prog (orcS 59 g Riiii F C) :=
  orcS_ok (τ := Riiii) (ρ := laysSortM_ren) laysSortM rfl isAgg81 sizeOf81 hS (body_of (fn := f59) (by kernel_rfl) (by kernel_rfl) (by kernel_rfl)) hC
end Go.Proofs.YtpojhcjdcbegiaaGreat

namespace Go.Tx
open Go Go.Pel
def pairsL {α : Type} : List α → List (α × α)
  | [] => []
  | p :: r => r.map (fun q => (p, q)) ++ pairsL r
def pairsB {α : Type} (l : List α) : Bool := Nat.ble l.length 1000
theorem pairsL_drop {α : Type} {l : List α} {k : Nat} {p : α} (h : l[k]? = some p) : pairsL (l.drop k) = ((l.drop (k + 1)).drop 0).map (fun q => (p, q)) ++ pairsL (l.drop (k + 1)) := by
  have hk := (List.getElem?_eq_some_iff.1 h).1
  have hp : l[k] = p := by rw [List.getElem?_eq_getElem hk] at h; exact Option.some.inj h
  rw [List.drop_eq_getElem_cons hk, pairsL, hp, List.drop_zero]
theorem pairs_next {α : Type} {l : List α} {k m : Nat} {p q : α} (h : l[k + 1 + m]? = some q) : ((l.drop (k + 1)).drop m).map (fun q => (p, q)) = (p, q) :: ((l.drop (k + 1)).drop (m + 1)).map (fun q => (p, q)) := by
  have hk := (List.getElem?_eq_some_iff.1 h).1
  have hp : l[k + 1 + m] = q := by rw [List.getElem?_eq_getElem hk] at h; exact Option.some.inj h
  rw [List.drop_drop, List.drop_drop, List.drop_eq_getElem_cons hk, hp, List.map_cons, Nat.add_assoc (k + 1) m 1]
/-- a slice that is written no more, in every world that keeps it -/
theorem fz_all {η : Emb} {τ : Row} (h : plainR τ = true) (hs : 0 < τ.size) {xs : List (den τ)} {v : Value} {w : World} (hw : ∀ k ob, η.fz k = some ob → w.heap[k]? = some ob) (hv : VR η (.fz τ xs) v) : ∃ A c, v = .slice A xs.length c ∧ ∀ w : World, (∀ k ob, η.fz k = some ob → w.heap[k]? = some ob) → Sl w τ.size A xs.length c (valsL τ xs) := by
  have hv' : VR (Emb.fro η.fz) (.fz τ xs) v := by
    cases hv with
    | fz hf => exact .fz hf
  obtain ⟨A, c, rfl, _, _⟩ := fz_sl hw h hs hv'
  refine ⟨A, c, rfl, fun w' hw' => ?_⟩
  obtain ⟨A', c', e, h1, _⟩ := fz_sl hw' h hs hv'
  injection e with e1 e2 e3
  subst e1 e3
  exact h1
theorem el3 {w : World} {b o n c k : Nat} {l : List (Int × Int × Int × Unit)} {x : Int × Int × Int × Unit} (h : Sl w 3 (some ⟨b, o, none⟩) n c (valsL (.int .i64 (.int .i64 (.int .i64 .nil))) l)) (hx : l[k]? = some x) : w.cell? ⟨b, o + k * 3, none⟩ = some (.int .i64 x.1) ∧ w.cell? ⟨b, o + k * 3 + 1, none⟩ = some (.int .i64 x.2.1) ∧ w.cell? ⟨b, o + k * 3 + 2, none⟩ = some (.int .i64 x.2.2.1) := by
  have e : valsL (.int .i64 (.int .i64 (.int .i64 .nil))) l = vp (ptsL l) := valsL_pt l
  rw [e] at h
  have hx' : (ptsL l)[k]? = some (ofP x) := by unfold ptsL; rw [List.getElem?_map, hx]; rfl
  exact pt_at h hx'
theorem lt_of_cell3 {w : World} {b o : Nat} {v : Value} (h : w.cell? ⟨b, o, none⟩ = some v) : b < w.heap.size := by
  unfold World.cell? at h
  cases hb : w.heap[b]? with
  | none => rw [show w.heap[(⟨b, o, none⟩ : Addr).block]? = w.heap[b]? from rfl, hb] at h; cases h
  | some ob => exact (Array.getElem?_eq_some_iff.1 hb).1
theorem cell_of_cells {w : World} {b : Nat} {cs : Array Value} {e : TypeId} {f : Nat × Nat} (h : w.heap[b]? = some (.cells cs e f)) (j : Nat) : w.cell? ⟨b, j, none⟩ = cs[j]? := by
  unfold World.cell?
  rw [show w.heap[(⟨b, j, none⟩ : Addr).block]? = w.heap[b]? from rfl, h]
  rfl
end Go.Tx
namespace Go.Proofs.YtpojhcjdcbegiaaGreat
open Go Go.Tx Go.Pel Go.RowKit Go.Shelf Go.Proofs.Tryz
attribute [local go_sem] Oper.semAt_some
set_option maxRecDepth 100000 in
set_option maxHeartbeats 1000000 in
theorem pairs1_iter {l : List Diii} (h : pairsB l = true) : IterOK prog 72 [.fz Riii l] (fun x : Diii × Diii => #[.agg #[.int .i64 x.1.1, .int .i64 x.1.2.1, .int .i64 x.1.2.2.1], .agg #[.int .i64 x.2.1, .int .i64 x.2.2.1, .int .i64 x.2.2.2.1]]) (pairsL l) := by
  have hl : l.length ≤ 1000 := Nat.le_of_ble_eq_true h
  intro w η ⟨B, Bo, Bl⟩ hat hw
  obtain ⟨v, h1, h2⟩ := hat.cell 0 _ rfl
  have hlt : B < w.heap.size := hat.lt
  obtain ⟨A, c, rfl, hS⟩ := fz_all (τ := Riii) rfl (by decide) hw h2
  clear h2 hat h
  intro l0 J W hW hJ1 hJ2 hY h0
  have hB0 : W.heap[B]? = w.heap[B]? := hW.block _ hlt
  have hc0 : W.cell? ⟨B, Bo, none⟩ = some (.slice A l.length c) := (hW.cell (p := ⟨B, Bo + 0, none⟩) hlt).trans h1
  have hF0 : ∀ k ob, η.fz k = some ob → W.heap[k]? = some ob := fun k ob hk => (hW.block _ (Array.getElem?_eq_some_iff.1 (hw k ob hk)).1).trans (hw k ob hk)
  have HS := Lib.hid hS
  have HF0 := Lib.hid hF0
  have HW := Lib.hid hw
  have HY := Lib.hid hY
  have HJ1 := Lib.hid hJ1
  have HJ2 := Lib.hid hJ2
  have H0 := Lib.hid h0
  clear h1 hS hF0 hw hY hJ1 hJ2 hW hB0 hlt h0
  dsimp only
  refine callsIn_of_wp Tryz.func72 rfl trivial ?_ rfl
  simp only [Tryz.ntmps72, List.size_toArray, List.length_cons, List.length_nil, Nat.reduceAdd, Nat.reduceSub, Array.replicate_succ, Array.replicate_zero, List.push_toArray, List.append_toArray, List.nil_append, List.cons_append]
  gi_wp2
  gi_loopw [10] (fun i wr => ∃ (k : Nat) (T : Nat → Prop) (pre : List (Diii × Diii)), i = .int .i64 k ∧ k ≤ l.length ∧ wr.cell? ⟨B, Bo, none⟩ = some (.slice A l.length c) ∧ (∀ j ob, η.fz j = some ob → wr.heap[j]? = some ob) ∧ pre ++ pairsL (l.drop k) = pairsL l ∧ J T pre wr) (fun i _ => l.length - (intOf i).toNat)
  case atStart => exact ⟨0, _, [], rfl, Nat.zero_le _, hc0, HF0.out, rfl, H0.out⟩
  case round =>
    obtain ⟨k, T, pre, rfl, hk, hc, hF, hx, hj⟩ := hrel
    clear hc0 HF0 H0
    by_cases hlt : k < l.length
    · obtain ⟨wo, rfl⟩ : ∃ wo : World, wo = wr := ⟨_, rfl⟩
      obtain ⟨x, hxk⟩ : ∃ x, l[k]? = some x := ⟨_, List.getElem?_eq_getElem hlt⟩
      have hsl := HS.out wo hF
      have hpos : 0 < l.length := by omega
      obtain ⟨b, o, rfl, hb⟩ := hsl.at_ hpos
      obtain ⟨d0, d1, d2⟩ := el3 hsl hxk
      have hBl : B < wo.heap.size := lt_of_cell3 hc
      have hcV : (wo.alloc (.cells #[.int .i64 x.1, .int .i64 x.2.1, .int .i64 x.2.2.1] 26)).cell? ⟨B, Bo, none⟩ = some (.slice (some ⟨b, o, none⟩) l.length c) := (World.cell?_of_block (a := ⟨B, Bo, none⟩) (((Bel.refl wo).alloc _).block _ hBl)).trans hc
      have hcap : l.length ≤ c := hsl.1
      have hlt' : (k : Int) < (l.length : Int) := by omega
      have e1 : IntKind.i64.wrap ((k : Int) + 1) = ((k + 1 : Nat) : Int) := by rw [IntWalk.i64_in _ (by omega)]; omega
      have hV : Bel wo (wo.alloc (.cells #[.int .i64 x.1, .int .i64 x.2.1, .int .i64 x.2.2.1] 26)) := (Bel.refl wo).alloc _
      have hVs : (wo.alloc (.cells #[.int .i64 x.1, .int .i64 x.2.1, .int .i64 x.2.2.1] 26)).heap.size = wo.heap.size + 1 := by simp
      have hVn : (wo.alloc (.cells #[.int .i64 x.1, .int .i64 x.2.1, .int .i64 x.2.2.1] 26)).heap[wo.heap.size]? = some (.cells #[.int .i64 x.1, .int .i64 x.2.1, .int .i64 x.2.2.1] 26) := World.alloc_heap_new _ _
      have hJV := HJ2.out T pre wo _ hj hV
      have hFV : ∀ j ob, η.fz j = some ob → (wo.alloc (.cells #[.int .i64 x.1, .int .i64 x.2.1, .int .i64 x.2.2.1] 26)).heap[j]? = some ob := fun j ob hj => by rw [hV.block j (Array.getElem?_eq_some_iff.1 (hF j ob hj)).1]; exact hF j ob hj
      have hx0 : pre ++ (((l.drop (k + 1)).drop 0).map (fun q => (x, q)) ++ pairsL (l.drop (k + 1))) = pairsL l := by rw [← pairsL_drop hxk]; exact hx
      have HX := Lib.hid hx0
      have HFV := Lib.hid hFV
      have HJV := Lib.hid hJV
      have HXK := Lib.hid hxk
      have HVN := Lib.hid hVn
      have HVS := Lib.hid hVs
      clear hx hF hj hsl hxk hx0 hFV hJV hV hVn hVs
      by_cases hck : c = k + 1
      · have hn0 : l.length = k + 1 := by omega
        have hn0' := Lib.hid (show l.drop (k + 1) = [] from List.drop_eq_nil_of_le (by omega))
        subst hck
        have z0 : l.length - (k + 1) = 0 := by omega
        gi_wp2
        gi_loopw [21] (fun i wr => i = .int .i64 0 ∧ wr = wo.alloc (.cells #[.int .i64 x.1, .int .i64 x.2.1, .int .i64 x.2.2.1] 26)) (fun _ _ => 0)
        case atStart => exact ⟨rfl, rfl⟩
        case round =>
          obtain ⟨rfl, rfl⟩ := hrel
          gi_wp2
          go_roundw
          case rel => exact ⟨k + 1, _, pre, by go_num, by omega, hcV, HFV.out, by have := HX.out; rw [List.drop_zero, hn0'.out] at this; rw [hn0'.out]; exact this, HJV.out⟩
          case measure => (first | (simp [intOf]; done) | (simp [intOf]; omega))
      · gi_wp2
        gi_loopw [21] (fun i wr2 => ∃ (m : Nat) (T2 : Nat → Prop) (pre2 : List (Diii × Diii)), i = .int .i64 m ∧ m ≤ l.length - (k + 1) ∧ wr2.cell? ⟨B, Bo, none⟩ = some (.slice (some ⟨b, o, none⟩) l.length c) ∧ (∀ j ob, η.fz j = some ob → wr2.heap[j]? = some ob) ∧ pre2 ++ (((l.drop (k + 1)).drop m).map (fun q => (x, q)) ++ pairsL (l.drop (k + 1))) = pairsL l ∧ J T2 pre2 wr2 ∧ T2 wo.heap.size ∧ wr2.heap[wo.heap.size]? = some (.cells #[.int .i64 x.1, .int .i64 x.2.1, .int .i64 x.2.2.1] 26)) (fun i _ => (l.length - (k + 1)) - (intOf i).toNat)
        case atStart => exact ⟨0, _, pre, rfl, Nat.zero_le _, hcV, HFV.out, HX.out, HJV.out, .inr ⟨Nat.le_refl _, by rw [HVS.out]; omega⟩, HVN.out⟩
        case round =>
          obtain ⟨m, T2, pre2, rfl, hm, hc2, hF2, hx2, hj2, hT2, hp2⟩ := hrel
          clear hcV HX HFV HJV HVN HVS
          by_cases hlm : m < l.length - (k + 1)
          · obtain ⟨q, hqk⟩ : ∃ q, l[k + 1 + m]? = some q := ⟨_, List.getElem?_eq_getElem (by omega)⟩
            obtain ⟨d0', d1', d2'⟩ := el3 (HS.out _ hF2) hqk
            have a0 : o + (k + 1 + m) * 3 = o + (k + 1) * 3 + m * 3 := by omega
            rw [a0] at d0' d1' d2'
            have hb2 : b < wr.heap.size := lt_of_cell3 d0'
            have hBl2 : B < wr.heap.size := lt_of_cell3 hc2
            have hPl2 : wo.heap.size < wr.heap.size := (Array.getElem?_eq_some_iff.1 hp2).1
            have hV : Bel wr (wr.alloc (.cells #[.int .i64 q.1, .int .i64 q.2.1, .int .i64 q.2.2.1] 26)) := (Bel.refl wr).alloc _
            have hcV2 : (wr.alloc (.cells #[.int .i64 q.1, .int .i64 q.2.1, .int .i64 q.2.2.1] 26)).cell? ⟨B, Bo, none⟩ = some (.slice (some ⟨b, o, none⟩) l.length c) := (World.cell?_of_block (a := ⟨B, Bo, none⟩) (hV.block _ hBl2)).trans hc2
            have hpV : (wr.alloc (.cells #[.int .i64 q.1, .int .i64 q.2.1, .int .i64 q.2.2.1] 26)).heap[wo.heap.size]? = some (.cells #[.int .i64 x.1, .int .i64 x.2.1, .int .i64 x.2.2.1] 26) := (hV.block _ hPl2).trans hp2
            have p0 : (wr.alloc (.cells #[.int .i64 q.1, .int .i64 q.2.1, .int .i64 q.2.2.1] 26)).cell? ⟨wo.heap.size, 0, none⟩ = some (.int .i64 x.1) := by rw [cell_of_cells hpV]; rfl
            have p1 : (wr.alloc (.cells #[.int .i64 q.1, .int .i64 q.2.1, .int .i64 q.2.2.1] 26)).cell? ⟨wo.heap.size, 1, none⟩ = some (.int .i64 x.2.1) := by rw [cell_of_cells hpV]; rfl
            have p2 : (wr.alloc (.cells #[.int .i64 q.1, .int .i64 q.2.1, .int .i64 q.2.2.1] 26)).cell? ⟨wo.heap.size, 2, none⟩ = some (.int .i64 x.2.2.1) := by rw [cell_of_cells hpV]; rfl
            have hJV := HJ2.out T2 pre2 wr _ hj2 hV
            rw [pairs_next hqk] at hx2
            obtain ⟨fn, tmps, assign, body, hy, hR⟩ := HY.out _ pre2 (x, q) _ _ hx2.symm hJV
            have hlm' : (m : Int) < ((l.length - (k + 1) : Nat) : Int) := by omega
            have HX2 := Lib.hid hx2
            have HF2 := Lib.hid hF2
            have HT2 := Lib.hid hT2
            have HV2 := Lib.hid hV
            have HPV := Lib.hid hpV
            have HCV2 := Lib.hid hcV2
            clear hx2 hF2 hT2 hV hpV hJV hj2 hqk
            gi_wp2
            refine hR.mono ?_
            rintro e W3 ⟨rfl, hJ3, ⟨hk3, hf3⟩, ht3⟩
            have hF3 : ∀ j ob, η.fz j = some ob → W3.heap[j]? = some ob := fun j ob hj => hf3 j ob hj (((HV2.out).block j (Array.getElem?_eq_some_iff.1 (HF2.out j ob hj)).1).trans (HF2.out j ob hj))
            have hc3 : W3.cell? ⟨B, Bo, none⟩ = some (.slice (some ⟨b, o, none⟩) l.length c) := (World.cell?_of_block (a := ⟨B, Bo, none⟩) hk3).trans HCV2.out
            have hp3 : W3.heap[wo.heap.size]? = some (.cells #[.int .i64 x.1, .int .i64 x.2.1, .int .i64 x.2.2.1] 26) := (ht3 _ (.inl HT2.out)).trans HPV.out
            have HF3 := Lib.hid hF3
            have HP3 := Lib.hid hp3
            have HJ3 := Lib.hid hJ3
            clear hF3 hp3 hJ3 hf3 ht3 hk3
            gi_wp2
            go_roundw
            case rel => exact ⟨m + 1, _, pre2 ++ [(x, q)], by go_num, by omega, hc3, HF3.out, by rw [List.append_assoc]; exact HX2.out, HJ3.out, .inl HT2.out, HP3.out⟩
            case measure => (first | (simp [intOf]; done) | (simp [intOf]; omega))
          · obtain rfl : m = l.length - (k + 1) := by omega
            have HX2 := Lib.hid hx2
            have HF2 := Lib.hid hF2
            have HJ2' := Lib.hid hj2
            clear hx2 hF2 hj2 hlm
            gi_wp2
            go_roundw
            case rel => exact ⟨k + 1, T2, pre2, by go_num, by omega, hc2, HF2.out, by have := HX2.out; rw [List.drop_drop, show k + 1 + (l.length - (k + 1)) = l.length by omega, List.drop_length] at this; exact this, HJ2'.out⟩
            case measure => (first | (simp [intOf]; done) | (simp [intOf]; omega))
    · obtain rfl : k = l.length := by omega
      have HX := Lib.hid hx
      have HF := Lib.hid hF
      have HJ := Lib.hid hj
      clear hx hF hj hlt
      gi_wp2
      go_end0
      exact ⟨⟨_, rfl⟩, _, by have := HX.out; rw [List.drop_length, pairsL, List.append_nil] at this; rw [← this]; exact HJ.out⟩
end Go.Proofs.YtpojhcjdcbegiaaGreat
