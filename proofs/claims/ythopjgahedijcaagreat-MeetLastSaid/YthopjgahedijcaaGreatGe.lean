/- Walks of the references; the orders agree; examples. -/
import Derived.Shelf.SlSortCmp.NoneTotal
import Derived.Test.YthopjgahedijcaaGreatProg
import Derived.Sort.Statements
import Derived.Shelf.SlSortCmp.Insertion
import Derived.Test.YthopjgahedijcaaGreatRows
import Derived.ProofKit
import Derived.OpenShut
import Derived.ShutString
import Derived.ChangeOld
import Derived.Deep.Slices
import Derived.Test.YthopjgahedijcaaGreatGd
set_option linter.unusedSimpArgs false
set_option linter.unusedVariables false
namespace Go.Proofs.YthopjgahedijcaaGreat
open Go.RowKit Go.Pel Go.IntWalk
theorem place_zero {l : List Pt} {id : Int} (h : (fieldPlace l id).2 = 0) : fieldChk l = 0 ∧ hasB l id = true ∧ (fieldPlace l id).1 = lowB l id := by
  unfold fieldPlace at h ⊢
  by_cases h0 : fieldChk l = 0
  · cases hb : hasB l id
    · simp [h0, hb] at h
    · simp [h0]
  · rw [if_pos h0] at h; exact absurd h h0
theorem find_eq (l : List Pt) (id : Int) : fieldFind l id = if (fieldPlace l id).2 = 0 then (l.getD (lowB l id) Pt.zero, 0) else (Pt.zero, (fieldPlace l id).2) := by
  unfold fieldFind fieldPlace
  by_cases h0 : fieldChk l = 0
  · cases hb : hasB l id <;> simp [h0]
  · simp [h0]
theorem take_eq (l : List Pt) (id : Int) : fieldTake l id = if (fieldPlace l id).2 = 0 then (l.take (lowB l id) ++ l.drop (lowB l id + 1), 0) else ([], (fieldPlace l id).2) := by
  unfold fieldTake fieldPlace
  by_cases h0 : fieldChk l = 0
  · cases hb : hasB l id <;> simp [h0]
  · simp [h0]
set_option maxRecDepth 10000 in
set_option maxHeartbeats 2000000 in
theorem fieldFind_any (A : Option Addr) (c : Nat) (l : List Pt) (id : Int) (w : World) (hs : Sl w 3 A l.length c (vp l)) :
    Calls Tryz.prog 14 #[.agg #[.slice A l.length c], .int .i64 id] w fun e w' => e = .returned (.tuple #[.agg #[.int .i64 (fieldFind l id).1.id, .int .i64 (fieldFind l id).1.a, .int .i64 (fieldFind l id).1.b], .int .i64 (fieldFind l id).2]) ∧ ∃ x, w' = ext w x := by
  have q := Lib.hid (fun W hb => place_any A c l id W (hs.bel (w' := W) hb))
  by_cases h : (fieldPlace l id).2 = 0
  · obtain ⟨h1, h2, h3⟩ := place_zero h
    obtain ⟨h64, hchk, hinc⟩ := fieldChk_zero h1
    obtain ⟨h4, p, hp, h5⟩ := atI_low hinc h2
    have HF : Hid (fieldFind l id = (p, 0)) := Lib.hid (by rw [find_eq, if_pos h, List.getD_eq_getElem?_getD, hp]; rfl)
    have hlt : lowB l id < l.length := (List.getElem?_eq_some_iff.1 hp).1
    rw [h3, h] at q
    obtain ⟨k, hk⟩ : ∃ k, lowB l id = k := ⟨_, rfl⟩
    rw [hk] at q hp hlt
    obtain ⟨b, o, rfl, hb⟩ := hs.at_ (by omega)
    obtain ⟨r0, r1, r2⟩ := pt_at hs hp
    have hlt' : (k : Int) < (l.length : Int) := by omega
    clear h h1 h2 h3 hk h4 h5 hchk hinc hp
    go_enter Tryz.func14, Tryz.ntmps14
    go_wp2_with ((go_at_call 29; refine (q.out _ (by (try simp only [ext_ext]); repeat (first | exact Bel.refl _ | assumption | refine bel_and ?_ _ | refine bel_drews ?_ _ | refine Bel.ext ?_ _ | refine Bel.alloc ?_ _ | refine Bel.drewN ?_ _))).mono ?_; rintro e _ ⟨rfl, nx, rfl⟩))
    exact bodyPost_ret (v := .tuple #[.agg #[.int .i64 p.id, .int .i64 p.a, .int .i64 p.b], .int .i64 0]) (by simp [results, Tryz.results14, go_sem]) rfl ⟨by rw [HF.out], ext_of (by (try simp only [ext_ext]); repeat (first | exact Bel.refl _ | assumption | refine bel_and ?_ _ | refine bel_drews ?_ _ | refine Bel.ext ?_ _ | refine Bel.alloc ?_ _ | refine Bel.drewN ?_ _))⟩
  · have HF : Hid (fieldFind l id = (Pt.zero, (fieldPlace l id).2)) := Lib.hid (by rw [find_eq, if_neg h])
    have hz : ((fieldPlace l id).2 == 0) = false := by simpa using h
    have hz' : ((fieldPlace l id).2 != 0) = true := by simpa using h
    clear h
    go_enter Tryz.func14, Tryz.ntmps14
    go_wp2_with ((go_at_call 29; refine (q.out _ (by (try simp only [ext_ext]); repeat (first | exact Bel.refl _ | assumption | refine bel_and ?_ _ | refine bel_drews ?_ _ | refine Bel.ext ?_ _ | refine Bel.alloc ?_ _ | refine Bel.drewN ?_ _))).mono ?_; rintro e _ ⟨rfl, nx, rfl⟩))
    exact bodyPost_ret (v := .tuple #[.agg #[.int .i64 0, .int .i64 0, .int .i64 0], .int .i64 (fieldPlace l id).2]) (by simp [results, Tryz.results14, go_sem]) rfl ⟨by (rw [HF.out]; rfl), ext_of (by (try simp only [ext_ext]); repeat (first | exact Bel.refl _ | assumption | refine bel_and ?_ _ | refine bel_drews ?_ _ | refine Bel.ext ?_ _ | refine Bel.alloc ?_ _ | refine Bel.drewN ?_ _))⟩
end Go.Proofs.YthopjgahedijcaaGreat

namespace Go.Proofs
open Go.Shelf
def Tryz.laysSort_ren : Go.Shelf.Ren := ⟨fun | 6 => 44 | 15 => 57 | 14 => 60 | 28 => 78 | 29 => 79 | 20 => 81 | 21 => 82 | 22 => 83 | 23 => 84 | 24 => 85 | 25 => 86 | 26 => 87 | 27 => 88 | 46 => 98 | 47 => 94 | 48 => 95 | 49 => 99 | 50 => 100 | 57 => 104 | n => n, fun | 22 => 22 | 24 => 33 | 25 => 89 | 3 => 3 | 39 => 99 | 0 => 0 | 53 => 122 | 55 => 59 | 4 => 4 | 46 => 116 | 45 => 115 | 50 => 81 | 5 => 5 | 9 => 9 | 66 => 138 | 70 => 142 | 76 => 148 | 77 => 149 | n => n, fun | n => n⟩
theorem Tryz.laysSort : Go.Proofs.SlLaysF0.n6 Tryz.prog Tryz.laysSort_ren := {
  mixed := by kernel_rfl
  f6 := ⟨Tryz.f44.name, by decide, Tryz.func44.trans (congrArg some (by kernel_rfl))⟩
  f14 := ⟨Tryz.f60.name, by decide, Tryz.func60.trans (congrArg some (by kernel_rfl))⟩
  f15 := Tryz.func57.trans (congrArg some (by kernel_rfl))
  f20 := ⟨Tryz.f81.name, by decide, Tryz.func81.trans (congrArg some (by kernel_rfl))⟩
  f21 := ⟨Tryz.f82.name, by decide, Tryz.func82.trans (congrArg some (by kernel_rfl))⟩
  f22 := ⟨Tryz.f83.name, by decide, Tryz.func83.trans (congrArg some (by kernel_rfl))⟩
  f23 := ⟨Tryz.f84.name, by decide, Tryz.func84.trans (congrArg some (by kernel_rfl))⟩
  f24 := ⟨Tryz.f85.name, by decide, Tryz.func85.trans (congrArg some (by kernel_rfl))⟩
  f25 := ⟨Tryz.f86.name, by decide, Tryz.func86.trans (congrArg some (by kernel_rfl))⟩
  f26 := ⟨Tryz.f87.name, by decide, Tryz.func87.trans (congrArg some (by kernel_rfl))⟩
  f27 := ⟨Tryz.f88.name, by decide, Tryz.func88.trans (congrArg some (by kernel_rfl))⟩
  f28 := Tryz.func78.trans (congrArg some (by kernel_rfl))
  f29 := Tryz.func79.trans (congrArg some (by kernel_rfl))
  f46 := ⟨Tryz.f98.name, by decide, Tryz.func98.trans (congrArg some (by kernel_rfl))⟩
  f47 := Tryz.func94.trans (congrArg some (by kernel_rfl))
  f48 := Tryz.func95.trans (congrArg some (by kernel_rfl))
  f49 := ⟨Tryz.f99.name, by decide, Tryz.func99.trans (congrArg some (by kernel_rfl))⟩
  f50 := ⟨Tryz.f100.name, by decide, Tryz.func100.trans (congrArg some (by kernel_rfl))⟩
  f57 := ⟨Tryz.f104.name, by decide, Tryz.func104.trans (congrArg some (by kernel_rfl))⟩
  t0 := Tryz.underlying0
  a0 := Tryz.isAgg0
  z0 := Tryz.sizeOf0
  v0 := Tryz.zeroValue0
  t3 := Tryz.underlying3
  a3 := Tryz.isAgg3
  z3 := Tryz.sizeOf3
  v3 := Tryz.zeroValue3
  t4 := Tryz.underlying4
  a4 := Tryz.isAgg4
  z4 := Tryz.sizeOf4
  v4 := Tryz.zeroValue4
  t5 := Tryz.underlying5
  a5 := Tryz.isAgg5
  z5 := Tryz.sizeOf5
  v5 := Tryz.zeroValue5
  t9 := Tryz.underlying9
  a9 := Tryz.isAgg9
  z9 := Tryz.sizeOf9
  v9 := Tryz.zeroValue9
  t22 := Tryz.underlying22
  a22 := Tryz.isAgg22
  z22 := Tryz.sizeOf22
  v22 := Tryz.zeroValue22
  t25 := Tryz.underlying89
  a25 := Tryz.isAgg89
  z25 := Tryz.sizeOf89
  v25 := Tryz.zeroValue89
  t39 := Tryz.underlying99
  a39 := Tryz.isAgg99
  z39 := Tryz.sizeOf99
  v39 := Tryz.zeroValue99
  t45 := Tryz.underlying115
  a45 := Tryz.isAgg115
  z45 := Tryz.sizeOf115
  v45 := Tryz.zeroValue115
  t46 := Tryz.underlying116
  a46 := Tryz.isAgg116
  z46 := Tryz.sizeOf116
  v46 := Tryz.zeroValue116
  t50 := Tryz.underlying81
  a50 := Tryz.isAgg81
  z50 := Tryz.sizeOf81
  v50 := Tryz.zeroValue81
  t53 := Tryz.underlying122
  a53 := Tryz.isAgg122
  z53 := Tryz.sizeOf122
  v53 := Tryz.zeroValue122
  t55 := Tryz.underlying59
  a55 := Tryz.isAgg59
  z55 := Tryz.sizeOf59
  v55 := Tryz.zeroValue59
  t66 := Tryz.underlying138
  a66 := Tryz.isAgg138
  z66 := Tryz.sizeOf138
  v66 := Tryz.zeroValue138
  t70 := Tryz.underlying142
  a70 := Tryz.isAgg142
  z70 := Tryz.sizeOf142
  v70 := Tryz.zeroValue142
  t76 := Tryz.underlying148
  a76 := Tryz.isAgg148
  z76 := Tryz.sizeOf148
  v76 := Tryz.zeroValue148
  t77 := Tryz.underlying149
  a77 := Tryz.isAgg149
  z77 := Tryz.sizeOf149
  v77 := Tryz.zeroValue149 }
end Go.Proofs

namespace Go.Pel
open Go.Sort Go.Proofs
def worth (p : Pt) (n d : Int) : Int := p.a * d + p.b * n
theorem farD_worth (p q : Pt) (n d : Int) : farD p q n d = worth p n d - worth q n d := by
  unfold farD worth; rw [Int.sub_mul, Int.sub_mul]; omega
theorem leads_iff (p q : Pt) (n d : Int) : leads p q n d = true ↔ worth q n d < worth p n d ∨ (worth q n d = worth p n d ∧ (q.b < p.b ∨ (q.b = p.b ∧ p.id < q.id))) := by
  unfold leads
  rw [farD_worth]
  by_cases h : worth p n d - worth q n d ≠ 0
  · rw [if_pos h]; simp; omega
  · rw [if_neg h]
    by_cases h2 : p.b ≠ q.b
    · rw [if_pos h2]; simp; omega
    · rw [if_neg h2]; simp; omega
def cfP (n d : Int) (p q : Pt) : Int := if p.id = q.id then 0 else if leads p q n d then -1 else 1
theorem ltOf_cfP (n d : Int) (p q : Pt) : ltOf (cfP n d) p q = true ↔ p.id ≠ q.id ∧ leads p q n d = true := by
  unfold ltOf cfP
  by_cases h : p.id = q.id
  · rw [if_pos h]; simp [h]
  · rw [if_neg h]
    by_cases h2 : leads p q n d = true
    · rw [if_pos h2]; simp [h, h2]
    · rw [if_neg h2]; simp [h2]
/-- the comparator at the points of a list whose ids are apart -/
def cfL (n d : Int) (l : List Pt) (x y : {p : Pt // p ∈ l}) : Int := cfP n d x.1 y.1
theorem ltOf_cfL (n d : Int) (l : List Pt) (x y : {p : Pt // p ∈ l}) : ltOf (cfL n d l) x y = true ↔ x.1.id ≠ y.1.id ∧ leads x.1 y.1 n d = true := ltOf_cfP n d x.1 y.1
def IdsApart (l : List Pt) : Prop := ∀ p ∈ l, ∀ q ∈ l, p.id = q.id → p = q
theorem nlt {n d : Int} {p q : Pt} (h : leads p q n d = false) : ¬ (worth q n d < worth p n d ∨ (worth q n d = worth p n d ∧ (q.b < p.b ∨ (q.b = p.b ∧ p.id < q.id)))) := by
  rw [← leads_iff, h]; decide
theorem swo_cfL {n d : Int} {l : List Pt} (hi : IdsApart l) : SWO (ltOf (cfL n d l)) := by
  have F : ∀ x y, ltOf (cfL n d l) x y = false ↔ (x = y ∨ (x.1.id ≠ y.1.id ∧ leads x.1 y.1 n d = false)) := by
    intro x y
    rw [← Bool.not_eq_true, ltOf_cfL]
    constructor
    · intro h
      by_cases he : x.1.id = y.1.id
      · exact .inl (Subtype.ext (hi _ x.2 _ y.2 he))
      · exact .inr ⟨he, by simpa [he] using h⟩
    · rintro (rfl | ⟨h1, h2⟩)
      · simp
      · simp [h2]
  constructor
  · intro x; exact (F x x).2 (.inl rfl)
  · intro x y z h1 h2
    rw [ltOf_cfL, leads_iff] at h1 h2 ⊢
    refine ⟨?_, by omega⟩
    intro h
    obtain rfl : x = z := Subtype.ext (hi _ x.2 _ z.2 h)
    omega
  · intro x y z h1 h2
    rw [F] at h1 h2 ⊢
    rcases h1 with rfl | ⟨h1, k1⟩
    · exact h2
    rcases h2 with rfl | ⟨h2, k2⟩
    · exact .inr ⟨h1, k1⟩
    have k1 := nlt k1
    have k2 := nlt k2
    by_cases hne : x.1.id = z.1.id
    · exact .inl (Subtype.ext (hi _ x.2 _ z.2 hne))
    refine .inr ⟨hne, ?_⟩
    rw [← Bool.not_eq_true, leads_iff]
    omega
theorem tot_cfL {n d : Int} {l : List Pt} (hi : IdsApart l) (x y : {p : Pt // p ∈ l}) (h1 : ltOf (cfL n d l) x y = false) (h2 : ltOf (cfL n d l) y x = false) : x = y := by
  rw [← Bool.not_eq_true, ltOf_cfL] at h1 h2
  by_cases he : x.1.id = y.1.id
  · exact Subtype.ext (hi _ x.2 _ y.2 he)
  · exfalso
    have h1' : leads x.1 y.1 n d = false := by simpa [he] using h1
    have h2' : leads y.1 x.1 n d = false := by simpa [Ne.symm he] using h2
    have := nlt h1'
    have := nlt h2'
    omega
/-- the list sorted by who leads -/
def sortP (n d : Int) (l : List Pt) : List Pt := ((l.attach.mergeSort fun x y => !(ltOf (cfL n d l)) y x)).map Subtype.val
theorem sortP_perm (n d : Int) (l : List Pt) : (sortP n d l).Perm l := by
  unfold sortP
  have := (List.mergeSort_perm l.attach (fun x y => !(ltOf (cfL n d l)) y x)).map Subtype.val
  simpa [List.attach_map_subtype_val] using this
theorem sortP_length (n d : Int) (l : List Pt) : (sortP n d l).length = l.length := (sortP_perm n d l).length_eq
theorem sortP_pairwise {n d : Int} {l : List Pt} (hi : IdsApart l) (hn : (l.map Pt.id).Nodup) : (sortP n d l).Pairwise fun p q => leads p q n d = true := by
  have hO := swo_cfL (n := n) (d := d) hi
  have h1 : (l.attach.mergeSort fun x y => !(ltOf (cfL n d l)) y x).Pairwise fun x y => (!(ltOf (cfL n d l)) y x) = true := by
    apply List.pairwise_mergeSort
    · intro a b c h1 h2
      simp only [Bool.not_eq_true', ] at h1 h2 ⊢
      exact hO.ntrans _ _ _ h2 h1
    · intro a b
      simp only [Bool.or_eq_true, Bool.not_eq_true']
      by_cases h : ltOf (cfL n d l) b a = true
      · right
        rcases hq : ltOf (cfL n d l) a b with _ | _
        · rfl
        · have := hO.trans _ _ _ h hq; rw [hO.irrefl] at this; exact absurd this (by decide)
      · left; simpa using h
  have h2 : (sortP n d l).Pairwise fun p q => p.id ≠ q.id := by
    have := ((sortP_perm n d l).map Pt.id).nodup_iff.2 hn
    exact List.pairwise_map.1 this
  have h3 : (sortP n d l).Pairwise fun p q => ¬ (q.id ≠ p.id ∧ leads q p n d = true) := by
    unfold sortP
    rw [List.pairwise_map]
    refine h1.imp ?_
    intro a b h
    rw [← ltOf_cfL]
    simpa using h
  refine (h2.and h3).imp ?_
  rintro p q ⟨h, h'⟩
  have h4 : leads q p n d = false := by simpa [Ne.symm h] using h'
  have := nlt h4
  rw [leads_iff]
  omega
end Go.Pel

namespace Go.Proofs.YthopjgahedijcaaGreat
open Go.RowKit Go.Pel
set_option maxRecDepth 10000 in
set_option maxHeartbeats 2000000 in
theorem sorted1_any (p q : Pt) (n d : Int) (rb : Nat) (w : World) (hn : -9223372036854775808 ≤ n ∧ n ≤ 9223372036854775807) (hd : -9223372036854775808 ≤ d ∧ d ≤ 9223372036854775807) (r0 : Held w rb 0 (.int .i64 n)) (r1 : Held w rb 1 (.int .i64 d)) (ht : p.id ≠ q.id → twoChk p q n d = 0) :
    Calls Tryz.prog 45 #[.agg #[.int .i64 p.id, .int .i64 p.a, .int .i64 p.b], .agg #[.int .i64 q.id, .int .i64 q.a, .int .i64 q.b], .pointer (some ⟨rb, 0, none⟩)] w fun e w' => e = .returned (.int .i64 (cfP n d p q)) ∧ ∃ x, w' = ext w x := by
  have hb := r0.lt
  have c0 := r0.eq
  have c1 := r1.eq
  have q1 := Lib.hid (fun W => ahead_any p q n d W hn hd)
  clear hn hd r0 r1
  by_cases h : p.id = q.id
  · have HV := Lib.hid (show (0 : Int) = cfP n d p q from (if_pos h).symm)
    clear ht q1
    go_enter Tryz.func45, Tryz.ntmps45
    go_wp2
    (go_ret; exact ⟨ret_int (by exact HV.out), ext_of (by (try simp only [ext_ext]); repeat (first | exact Bel.refl _ | assumption | refine bel_and ?_ _ | refine bel_drews ?_ _ | refine Bel.ext ?_ _ | refine Bel.alloc ?_ _ | refine Bel.drewN ?_ _))⟩)
  · have HA : aheadV p q n d = (leads p q n d, 0) := if_pos (ht h)
    rw [HA] at q1
    clear ht HA
    rcases hL : leads p q n d with _ | _
    · have HV := Lib.hid (show (1 : Int) = cfP n d p q by unfold cfP; rw [if_neg h, hL]; rfl)
      rw [hL] at q1
      clear hL
      go_enter Tryz.func45, Tryz.ntmps45
      go_wp2_with ((go_at_call 46; (with_reducible refine (q1.out _).mono ?_); rintro e _ ⟨rfl, nx, rfl⟩))
      (go_ret; exact ⟨ret_int (by exact HV.out), ext_of (by (try simp only [ext_ext]); repeat (first | exact Bel.refl _ | assumption | refine bel_and ?_ _ | refine bel_drews ?_ _ | refine Bel.ext ?_ _ | refine Bel.alloc ?_ _ | refine Bel.drewN ?_ _))⟩)
    · have HV := Lib.hid (show (-1 : Int) = cfP n d p q by unfold cfP; rw [if_neg h, hL]; rfl)
      rw [hL] at q1
      clear hL
      go_enter Tryz.func45, Tryz.ntmps45
      go_wp2_with ((go_at_call 46; (with_reducible refine (q1.out _).mono ?_); rintro e _ ⟨rfl, nx, rfl⟩))
      (go_ret; exact ⟨ret_int (by exact HV.out), ext_of (by (try simp only [ext_ext]); repeat (first | exact Bel.refl _ | assumption | refine bel_and ?_ _ | refine bel_drews ?_ _ | refine Bel.ext ?_ _ | refine Bel.alloc ?_ _ | refine Bel.drewN ?_ _))⟩)
end Go.Proofs.YthopjgahedijcaaGreat

namespace Go
open RowKit Go.Sort Go.Proofs Go.Shelf
theorem flatK_list {α : Type} [Inhabited α] (enc : α → List Value) (k : Nat) (hk : ∀ x, (enc x).length = k) : ∀ (l : List α), (flatK enc k l.toArray).toList = l.flatMap enc := by
  intro l
  have key : ∀ (l : List α) (t : Nat), t < l.length * k → (l.flatMap enc)[t]? = some ((enc l[t / k]!)[t % k]!) := by
    intro l
    induction l with
    | nil => intro t ht; simp at ht
    | cons a r ih =>
      intro t ht
      have k0 : 0 < k := by
        rcases Nat.eq_zero_or_pos k with h | h
        · subst h; simp at ht
        · exact h
      rw [List.flatMap_cons]
      by_cases hlt : t < k
      · rw [List.getElem?_append_left (by rw [hk]; exact hlt), Nat.div_eq_of_lt hlt, Nat.mod_eq_of_lt hlt]
        have : t < (enc a).length := by rw [hk]; exact hlt
        simp [this]
      · rw [List.getElem?_append_right (by rw [hk]; omega), hk]
        have h2 : t - k < r.length * k := by
          rw [List.length_cons, Nat.add_mul, Nat.one_mul] at ht; omega
        rw [ih (t - k) h2]
        have e1 : t / k = (t - k) / k + 1 := by
          have := Nat.div_eq_sub_div k0 (by omega : k ≤ t)
          omega
        have e2 : t % k = (t - k) % k := Nat.mod_eq_sub_mod (by omega)
        rw [e1, e2]
        simp
  have hlen : (l.flatMap enc).length = l.length * k := by
    induction l with
    | nil => simp
    | cons a r ih => rw [List.flatMap_cons, List.length_append, ih, hk, List.length_cons, Nat.add_mul, Nat.one_mul]; omega
  apply List.ext_getElem?
  intro t
  by_cases ht : t < l.length * k
  · rw [key l t ht]
    simp [flatK, ht]
  · rw [List.getElem?_eq_none (by simp [flatK]; omega), List.getElem?_eq_none (by rw [hlen]; omega)]
theorem row_put {w : World} {base g cap size : Nat} {e : TypeId} {cur : List Value} (h : Row w base e size g cap cur) (q : Nat) (F : Array Value) (hF : F.size ≤ cur.length) : Row (putRow id (Sort.ahead w q) g 0 F) base e size g cap (F.toList ++ cur.drop F.size) := by
  refine ⟨h.1, ?_, h.2.2.1, ?_⟩
  · have : putCells id 0 F cur.toArray = (F.toList ++ cur.drop F.size).toArray := by
      apply Array.ext_getElem?
      intro k
      simp only [putCells, Array.getElem?_mapIdx, List.getElem?_toArray]
      by_cases hk : k < F.size
      · rw [List.getElem?_append_left (by simpa using hk)]
        have : k < cur.length := by omega
        simp [this, hk]
      · rw [List.getElem?_append_right (by simpa using hk)]
        simp [hk, show F.size + (k - F.size) = k by omega]
    unfold putRow mapBlock Sort.ahead
    simp [Array.getElem?_modify, h.2.1, onCells, this]
  · rw [List.length_append, List.length_drop, ← h.len]; simp; omega
theorem apart_put (g : Nat) (w : World) (q off : Nat) (F : Array Value) : Apart g w (putRow id (Sort.ahead w q) g off F) :=
  ⟨rfl, rfl, rfl, by simp [putRow, mapBlock, Sort.ahead], by simp [putRow, mapBlock, Sort.ahead], fun b hb => by simp [putRow, mapBlock, Sort.ahead, Array.getElem?_modify, Ne.symm hb]⟩
theorem bel_grow (w : World) (os : Array Obj) : Bel w (grow w os) :=
  ⟨⟨rfl, rfl, rfl, by simp [grow], fun k hk => by simp only [grow]; rw [Array.getElem?_append_left hk]⟩, Nat.le_refl _⟩
theorem ext_grow (w : World) (x : Beyond) : ext w x = grow (w.drewN x.drawn) x.objs := by
  unfold ext grow World.drewN; rfl
end Go
namespace Go.Proofs.YthopjgahedijcaaGreat
open Go.RowKit Go.Pel Go.Sort Go.Shelf
def encL (l : List Pt) (x : {p : Pt // p ∈ l}) : List Value := x.1.cells
theorem flat_attach (l : List Pt) (m : List {p : Pt // p ∈ l}) : m.flatMap (encL l) = vp (m.map Subtype.val) := by
  unfold vp encL; rw [List.flatMap_map]
set_option maxRecDepth 10000 in
set_option maxHeartbeats 1000000 in
theorem sortFunc_any (A : Option Addr) (c : Nat) (l : List Pt) (n d : Int) (rb B : Nat) (wB w : World) (hs : Own w B 33 3 A l.length c (vp l)) (hb : Bel wB w) (hB : wB.heap.size ≤ B) (hrb : rb < B)
    (r0 : Held w rb 0 (.int .i64 n)) (r1 : Held w rb 1 (.int .i64 d)) (hn : -9223372036854775808 ≤ n ∧ n ≤ 9223372036854775807) (hd : -9223372036854775808 ≤ d ∧ d ≤ 9223372036854775807) (hl : l.length ≤ 1000000) (hi : IdsApart l) (ht : ∀ p ∈ l, ∀ q ∈ l, p.id ≠ q.id → twoChk p q n d = 0) :
    Calls Tryz.prog 44 #[.slice A l.length c, .func (.func 45) #[] #[.pointer (some ⟨rb, 0, none⟩)]] w fun e w' => e = .returned (.tuple #[]) ∧ ∃ y, w' = ext wB y ∧ Own (ext wB y) B 33 3 A l.length c (vp (sortP n d l)) := by
  by_cases h0 : l = []
  · subst h0
    have hcon := AnyF.slices_SortFunc_none Tryz.laysSort A c (.func (.func 45) #[] #[.pointer (some ⟨rb, 0, none⟩)]) w
    refine Calls.mono hcon ?_
    rintro e w' ⟨rfl, rfl⟩
    refine ⟨rfl, own_exists hb ?_ (Bel.refl _)⟩
    have e0 : sortP n d [] = [] := List.eq_nil_of_length_eq_zero (sortP_length n d [])
    rw [e0]; exact hs
  · rcases hs.row with ⟨rfl, hn, _⟩ | ⟨g, cur, rfl, hr, hnc, hcur⟩
    · exact absurd (List.eq_nil_of_length_eq_zero hn) h0
    have hg := hr.1
    haveI : Inhabited {p : Pt // p ∈ l} := ⟨⟨l.head h0, List.head_mem h0⟩⟩
    have hcl : (vp l).length ≤ cur.length := by rw [← hcur, List.length_take]; omega
    have eg : ∀ args w, (callFunc 45 args).run Tryz.prog w = .ok (.enter 45 args) w := enters_of Tryz.func45 (by kernel_rfl) rfl
    have hk : ∀ x, (encL l x).length = 3 := fun _ => rfl
    have hflat : ∀ m : List {p : Pt // p ∈ l}, (flatK (encL l) 3 m.toArray).toList = vp (m.map Subtype.val) := fun m => by rw [flatK_list _ _ hk, flat_attach]
    have hcmp : CmpLays Tryz.prog 45 #[.pointer (some ⟨rb, 0, none⟩)] (encL l) 3 (cfL n d l) g 0 l.attach.toArray.size w := by
      intro m os dk _ x y
      have hap : Apart g w (putRowK (encL l) 3 (Sort.ahead w m) g 0 dk) := apart_put g w m 0 _
      have hbg : Bel (putRowK (encL l) 3 (Sort.ahead w m) g 0 dk) (sortWorldK (encL l) 3 w g 0 m dk os) := bel_grow _ os
      have h := sorted1_any x.1 y.1 n d rb (sortWorldK (encL l) 3 w g 0 m dk os) hn hd ((r0.apart hap (by omega)).bel hbg) ((r1.apart hap (by omega)).bel hbg) (ht _ x.2 _ y.2)
      refine Calls.mono h ?_
      rintro e w' ⟨rfl, z, rfl⟩
      exact ⟨rfl, z.drawn, z.objs, ext_grow _ z⟩
    have hfl : (flatK (encL l) 3 l.attach.toArray) = (vp l).toArray := by
      apply Array.toList_inj.1
      rw [hflat, List.attach_map_subtype_val]
    have hH : HoldsK (encL l) 3 w g 0 l.attach.toArray := by
      unfold HoldsK
      rw [hfl]
      intro j hj
      have hj' : j < (vp l).length := by simpa using hj
      refine ⟨?_, hr.frozen _⟩
      rw [Nat.zero_add]
      refine hr.cell ?_
      have : cur[j]? = (vp l)[j]? := by
        rw [← hcur, List.getElem?_take, if_pos]
        rw [vp_len] at hj'; exact hj'
      rw [this]
      simp [hj']
    have hcon := AnyQ.slices_SortFunc_total Tryz.laysSort 3 Tryz.isAgg33 Tryz.sizeOf33 (encL l) hk (fun x v hv => pt_one x.1 v hv) (cfL n d l) (swo_cfL hi) 45 #[.pointer (some ⟨rb, 0, none⟩)] g 0 c l.attach.toArray w eg hcmp hH hr.lt (by simp; omega) (fun x y h1 h2 => tot_cfL hi x y h1 h2)
    have hsz : l.attach.toArray.size = l.length := by simp
    rw [hsz] at hcon
    refine Calls.mono hcon ?_
    rintro e w' ⟨rfl, m, os, rfl⟩
    refine ⟨rfl, ?_⟩
    have hF : flatK (encL l) 3 (l.attach.mergeSort fun x y => !(ltOf (cfL n d l)) y x).toArray = (vp (sortP n d l)).toArray := by
      apply Array.toList_inj.1
      rw [hflat]; rfl
    have hlen : (vp (sortP n d l)).length = l.length * 3 := by rw [vp_len, sortP_length]
    have hrow := row_put hr m (vp (sortP n d l)).toArray (by rw [vp_len] at hcl; simp; omega)
    have hap : Apart g w (putRow id (Sort.ahead w m) g 0 (vp (sortP n d l)).toArray) := apart_put g w m 0 _
    have hown := hrow.own hnc
    have htk : List.take (l.length * 3) ((vp (sortP n d l)).toArray.toList ++ List.drop (vp (sortP n d l)).toArray.size cur) = vp (sortP n d l) := by
      simp only [List.size_toArray]
      rw [List.take_append_of_le_length (by omega), ← hlen, List.take_length]
    rw [htk] at hown
    unfold sortWorldK putRowK
    show ∃ y, grow (putRow id (Sort.ahead w m) g 0 (flatK (encL l) 3 (l.attach.mergeSort fun x y => !(ltOf (cfL n d l)) y x).toArray)) os = ext wB y ∧ _
    rw [hF]
    exact own_exists ((hap.bel hb (by omega)).trans (bel_grow _ os)) hown (bel_grow _ os)
end Go.Proofs.YthopjgahedijcaaGreat

namespace Go.Pel
def fieldSorted (l : List Pt) (n d : Int) : List Pt × Int := if fieldChk l ≠ 0 then ([], fieldChk l) else if ratioChk n d ≠ 0 then ([], ratioChk n d) else (sortP n d l, 0)
theorem idsApart_inc {l : List Pt} (h : incB l = true) : IdsApart l := by
  intro p hp q hq he
  obtain ⟨i, hi⟩ := List.mem_iff_getElem?.1 hp
  obtain ⟨j, hj⟩ := List.mem_iff_getElem?.1 hq
  rcases (by omega : i < j ∨ j < i ∨ i = j) with k | k | k
  · have := inc_lt h k hi hj; omega
  · have := inc_lt h k hj hi; omega
  · subst k; rw [hi] at hj; exact Option.some.inj hj
end Go.Pel
namespace Go.Proofs.YthopjgahedijcaaGreat
open Go.RowKit Go.Pel
set_option maxRecDepth 10000 in
set_option maxHeartbeats 2000000 in
theorem sorted_any (A : Option Addr) (c : Nat) (l : List Pt) (n d : Int) (w : World) (hn : -9223372036854775808 ≤ n ∧ n ≤ 9223372036854775807) (hd : -9223372036854775808 ≤ d ∧ d ≤ 9223372036854775807) (hs : Sl w 3 A l.length c (vp l)) (hn0 : A = none → c = 0) :
    Calls Tryz.prog 28 #[.agg #[.slice A l.length c], .agg #[.int .i64 n, .int .i64 d]] w fun e w' => ∃ A' c', e = .returned (.tuple #[.slice A' (fieldSorted l n d).1.length c', .int .i64 (fieldSorted l n d).2]) ∧ ∃ x, w' = ext w x ∧ Own (ext w x) w.heap.size 33 3 A' (fieldSorted l n d).1.length c' (vp (fieldSorted l n d).1) := by
  have q := Lib.hid (fun W hb => fieldCheck_any A c l W (hs.bel (w' := W) hb))
  have q2 := Lib.hid (fun W => ratioCheck_any n d W hn hd)
  by_cases h : fieldChk l = 0
  · rw [h] at q
    obtain ⟨h64, hchk, hinc⟩ := fieldChk_zero h
    by_cases h2 : ratioChk n d = 0
    · rw [h2] at q2
      have HF : Hid (fieldSorted l n d = (sortP n d l, 0)) := Lib.hid (by unfold fieldSorted; rw [if_neg (by simpa using h), if_neg (by simpa using h2)])
      have q3 := Lib.hid (fun W hb => clone_any A c l W (hs.bel (w' := W) hb) hn0 (by omega))
      have hia := idsApart_inc hinc
      have hap : ∀ p ∈ l, ∀ q ∈ l, p.id ≠ q.id → twoChk p q n d = 0 := fun p hp q hq hne => twoChk_ok ⟨hchk p hp, hchk q hq, h2⟩ hne
      have q4 := Lib.hid (fun (A2 : Option Addr) (c2 rb B : Nat) (W : World) (hs2 : Own W B 33 3 A2 l.length c2 (vp l)) (hb : Bel w W) (hB : w.heap.size ≤ B) (hrb : rb < B) (r0 : Held W rb 0 (.int .i64 n)) (r1 : Held W rb 1 (.int .i64 d)) => sortFunc_any A2 c2 l n d rb B w W hs2 hb hB hrb r0 r1 hn hd (by omega) hia hap)
      rw [HF.out]
      clear h h2 h64 hchk hinc hia hap hn hd HF
      have HL := Lib.hid (sortP_length n d l)
      go_enter Tryz.func28, Tryz.ntmps28
      go_wp2_with (first | (go_at_call 33; refine (q.out _ (by (try simp only [ext_ext]); repeat (first | exact Bel.refl _ | assumption | refine bel_and ?_ _ | refine bel_drews ?_ _ | refine Bel.ext ?_ _ | refine Bel.alloc ?_ _ | refine Bel.drewN ?_ _))).mono ?_; rintro e _ ⟨rfl, nx, rfl⟩) | (go_at_call 34; refine (q2.out _).mono ?_; rintro e _ ⟨rfl, nx, rfl⟩))
      refine (q3.out _ (by (try simp only [ext_ext]); repeat (first | exact Bel.refl _ | assumption | refine bel_and ?_ _ | refine bel_drews ?_ _ | refine Bel.ext ?_ _ | refine Bel.alloc ?_ _ | refine Bel.drewN ?_ _))).mono ?_
      rintro e _ ⟨A2, c2, rfl, x2, rfl, own2⟩
      simp only [ext_ext] at own2 ⊢
      have own3 := own2.base_le (base' := w.heap.size + 2) (by simp [go_sem])
      clear own2
      generalize hZ : ((_ : Beyond).and _).and x2 = Z at own3 ⊢
      obtain ⟨W2, hW2⟩ : ∃ W2, ext ((w.alloc (.cells #[.slice A l.length c] 24)).alloc (.cells #[.int .i64 n, .int .i64 d] 26)) Z = W2 := ⟨_, rfl⟩
      rw [hW2] at own3 ⊢
      have hb2 : Bel w W2 := by rw [← hW2]; exact (by (try simp only [ext_ext]); repeat (first | exact Bel.refl _ | assumption | refine bel_and ?_ _ | refine bel_drews ?_ _ | refine Bel.ext ?_ _ | refine Bel.alloc ?_ _ | refine Bel.drewN ?_ _))
      have hb3 : Bel ((w.alloc (.cells #[.slice A l.length c] 24)).alloc (.cells #[.int .i64 n, .int .i64 d] 26)) W2 := by rw [← hW2]; exact bel_ext _ _
      have e1 : (w.alloc (.cells #[.slice A l.length c] 24)).heap.size = w.heap.size + 1 := by simp [go_sem]
      have r0 := Held.new (j := 0) hb3 rfl
      have r1 := Held.new (j := 1) hb3 rfl
      rw [e1] at r0 r1
      have q5 := q4.out A2 c2 (w.heap.size + 1) (w.heap.size + 2) W2 own3 hb2 (by omega) (by omega) r0 r1
      clear hW2 hZ q4 q3 q2 q r0 r1 hb3 own3
      go_wp2_with (go_at_call 44; refine q5.mono ?_; rintro e _ ⟨rfl, y, rfl, own4⟩)
      go_ret2
      refine ⟨A2, c2, ?_, y, rfl, ?_⟩
      · rw [HL.out]; rfl
      · rw [HL.out]; exact own4.base_le (by omega)
    · rw [show fieldSorted l n d = ([], ratioChk n d) by unfold fieldSorted; rw [if_neg (by simpa using h), if_pos h2]]
      have h2' : (ratioChk n d != 0) = true := by simpa using h2
      clear h h64 hchk hinc h2 hn hd
      go_enter Tryz.func28, Tryz.ntmps28
      go_wp2_with (first | (go_at_call 33; refine (q.out _ (by (try simp only [ext_ext]); repeat (first | exact Bel.refl _ | assumption | refine bel_and ?_ _ | refine bel_drews ?_ _ | refine Bel.ext ?_ _ | refine Bel.alloc ?_ _ | refine Bel.drewN ?_ _))).mono ?_; rintro e _ ⟨rfl, nx, rfl⟩) | (go_at_call 34; refine (q2.out _).mono ?_; rintro e _ ⟨rfl, nx, rfl⟩))
      go_ret2
      exact ⟨none, 0, rfl, own_exists (by (try simp only [ext_ext]); repeat (first | exact Bel.refl _ | assumption | refine bel_and ?_ _ | refine bel_drews ?_ _ | refine Bel.ext ?_ _ | refine Bel.alloc ?_ _ | refine Bel.drewN ?_ _)) (Own.nil_ _ _ _ _) (Bel.refl _)⟩
  · rw [show fieldSorted l n d = ([], fieldChk l) by unfold fieldSorted; rw [if_pos h]]
    have h' : (fieldChk l != 0) = true := by simpa using h
    clear h hn hd
    go_enter Tryz.func28, Tryz.ntmps28
    go_wp2_with (first | (go_at_call 33; refine (q.out _ (by (try simp only [ext_ext]); repeat (first | exact Bel.refl _ | assumption | refine bel_and ?_ _ | refine bel_drews ?_ _ | refine Bel.ext ?_ _ | refine Bel.alloc ?_ _ | refine Bel.drewN ?_ _))).mono ?_; rintro e _ ⟨rfl, nx, rfl⟩))
    go_ret2
    exact ⟨none, 0, rfl, own_exists (by (try simp only [ext_ext]); repeat (first | exact Bel.refl _ | assumption | refine bel_and ?_ _ | refine bel_drews ?_ _ | refine Bel.ext ?_ _ | refine Bel.alloc ?_ _ | refine Bel.drewN ?_ _)) (Own.nil_ _ _ _ _) (Bel.refl _)⟩
end Go.Proofs.YthopjgahedijcaaGreat

namespace Go.Pel
def fieldLeader (l : List Pt) (n d : Int) : Int × Int := if (fieldSorted l n d).2 ≠ 0 then (0, (fieldSorted l n d).2) else match (fieldSorted l n d).1 with | [] => (0, 42) | p :: _ => (p.id, 0)
end Go.Pel
namespace Go.Proofs.YthopjgahedijcaaGreat
open Go.RowKit Go.Pel
end Go.Proofs.YthopjgahedijcaaGreat

namespace Go.Pel
open Go
def fieldOrder (l : List Pt) (n d : Int) : List Int × Int := if (fieldSorted l n d).2 ≠ 0 then ([], (fieldSorted l n d).2) else ((fieldSorted l n d).1.map Pt.id, 0)
def ordAt (m : List Pt) (k : Nat) : List Value := vi ((m.take k).map Pt.id) ++ List.replicate (m.length - k) (.int .i64 0)
theorem ordAt_set {m : List Pt} {k : Nat} {p : Pt} (h : m[k]? = some p) : (ordAt m k).set k (.int .i64 p.id) = ordAt m (k + 1) := by
  have hk := (List.getElem?_eq_some_iff.1 h).1
  unfold ordAt
  have hl : (vi ((m.take k).map Pt.id)).length = k := by simp [vi]; omega
  rw [List.set_append_right _ _ (by omega), hl, Nat.sub_self]
  obtain ⟨r, hr⟩ : ∃ r, m.length - k = r + 1 := ⟨m.length - k - 1, by omega⟩
  rw [hr, List.replicate_succ, List.set_cons_zero, List.take_add_one, h]
  simp [vi, show m.length - (k + 1) = r by omega]
theorem ordAt_get {m : List Pt} {k : Nat} (hk : k < m.length) : (ordAt m k)[k]? = some (.int .i64 0) := by
  unfold ordAt
  have hl : (vi ((m.take k).map Pt.id)).length = k := by simp [vi]; omega
  rw [List.getElem?_append_right (by omega), hl, Nat.sub_self, List.getElem?_replicate, if_pos (by omega)]
theorem ordAt_end (m : List Pt) : ordAt m m.length = vi (m.map Pt.id) := by simp [ordAt]
end Go.Pel
namespace Go.Proofs.YthopjgahedijcaaGreat
open Go.RowKit Go.Pel
theorem slt_ints : SlT Tryz.prog 43 3 (.int .i64 0) 1 8 := ⟨by kernel_rfl, by kernel_rfl, by kernel_rfl, by decide, by decide⟩
theorem made_ints (n : Nat) : (madeCells (Value.int .i64 0).cells (n * 1)).toList = List.replicate n (.int .i64 0) := by
  apply List.ext_getElem?
  intro k
  by_cases hk : k < n <;> simp [madeCells, Value.cells, Nat.mod_one, List.getElem?_replicate, hk]
set_option maxRecDepth 10000 in
set_option maxHeartbeats 2000000 in
theorem order_any (A : Option Addr) (c : Nat) (l : List Pt) (n d : Int) (w : World) (hn : -9223372036854775808 ≤ n ∧ n ≤ 9223372036854775807) (hd : -9223372036854775808 ≤ d ∧ d ≤ 9223372036854775807) (hs : Sl w 3 A l.length c (vp l)) (hn0 : A = none → c = 0) (hl : l.length ≤ 1000000) :
    Calls Tryz.prog 12 #[.agg #[.slice A l.length c], .agg #[.int .i64 n, .int .i64 d]] w fun e w' => ∃ A' c', e = .returned (.tuple #[.slice A' (fieldOrder l n d).1.length c', .int .i64 (fieldOrder l n d).2]) ∧ ∃ x, w' = ext w x ∧ Own (ext w x) w.heap.size 3 1 A' (fieldOrder l n d).1.length c' (vi (fieldOrder l n d).1) := by
  have q := Lib.hid (fun W hb => sorted_any A c l n d W hn hd (hs.bel (w' := W) hb) hn0)
  have hlm : (fieldSorted l n d).1.length ≤ 1000000 := by
    unfold fieldSorted; split
    · simp
    · split
      · simp
      · rw [sortP_length]; exact hl
  unfold fieldOrder
  generalize fieldSorted l n d = F at q hlm ⊢
  obtain ⟨m, v⟩ := F
  simp only at q hlm ⊢
  by_cases h : v = 0
  · subst h
    rw [if_neg (by decide)]
    simp only [List.length_map]
    clear hn hd
    go_enter Tryz.func12, Tryz.ntmps12
    go_wp2_with (first | (refine make_ext slt_ints (Bel.refl _) (n := m.length) (by omega) rfl _ _ rfl rfl rfl ?_; rintro g y hg hown; rw [made_ints] at hown; have hL2 := own2.sl) | (go_at_call 28; refine (q.out _ (by (try simp only [ext_ext]); repeat (first | exact Bel.refl _ | assumption | refine bel_and ?_ _ | refine bel_drews ?_ _ | refine Bel.ext ?_ _ | refine Bel.alloc ?_ _ | refine Bel.drewN ?_ _))).mono ?_; rintro e W1 ⟨A2, c2, rfl, hx2⟩; have own2 := own_here hx2; have hb0 := bel_of (own_split hx2); have hb1 : Bel w W1 := (by refine Bel.trans ?_ hb0; exact (by (try simp only [ext_ext]); repeat (first | exact Bel.refl _ | assumption | refine bel_and ?_ _ | refine bel_drews ?_ _ | refine Bel.ext ?_ _ | refine Bel.alloc ?_ _ | refine Bel.drewN ?_ _))); clear hx2 hb0))
    clear own2
    go_loopw [25] (fun i wr => ∃ (k : Nat) (y : Beyond), k ≤ m.length ∧ i = .int .i64 k ∧ wr = ext W1 y ∧ Own (ext W1 y) W1.heap.size 3 1 (some ⟨g, 0, none⟩) m.length m.length (ordAt m k)) (fun i _ => m.length - (intOf i).toNat)
    case atStart => exact ⟨0, y, Nat.zero_le _, rfl, rfl, by simpa [ordAt, vi] using hown⟩
    case round =>
      obtain ⟨k, y3, hk, rfl, rfl, own3⟩ := hrel
      by_cases hlt : k < m.length
      · obtain ⟨p, hp⟩ : ∃ p, m[k]? = some p := ⟨_, List.getElem?_eq_getElem hlt⟩
        have HS := Lib.hid (ordAt_set hp)
        have b0 := own_cell own3 (ordAt_get hlt)
        have z0 := own_frozen own3 k
        obtain ⟨b, o, rfl, hb2⟩ := hL2.at_ (by omega)
        obtain ⟨r0, r1, r2⟩ := pt_at (hL2.bel (w' := ext W1 y3) (bel_ext _ _)) hp
        have hlt' : (k : Int) < (m.length : Int) := by omega
        have hgs := own3.ats.2
        have hb3 : b < (ext W1 y3).heap.size := by simp [go_sem]; omega
        have hb4 : Bel W1 (ext W1 y3) := bel_ext _ _
        clear hp hown
        generalize ext W1 y3 = V at *
        have hgne : ¬ g = V.heap.size := by omega
        have hgne' : ¬ V.heap.size = g := by omega
        go_wp2
        go_roundw
        case rel =>
          obtain ⟨y5, hy5, own5⟩ := own_exists (w := W1) ((hb4.setCell (p := ⟨g, k, none⟩) hg (.int .i64 p.id)).alloc (.cells #[.int .i64 p.id, .int .i64 p.a, .int .i64 p.b] 33)) (World.ownsRow.stored own3 k (.int .i64 p.id)).1 ((Bel.refl _).alloc _)
          rw [HS.out] at own5
          exact ⟨k + 1, y5, by omega, by go_num, hy5, own5⟩
        case measure => (first | (simp [intOf]; done) | (simp [intOf]; omega))
      · obtain rfl : k = m.length := by omega
        rw [ordAt_end] at own3
        go_wp2
        go_ret2
        exact ⟨some ⟨g, 0, none⟩, m.length, rfl, own_exists (by (try simp only [ext_ext]); repeat (first | exact Bel.refl _ | assumption | refine bel_and ?_ _ | refine bel_drews ?_ _ | refine Bel.ext ?_ _ | refine Bel.alloc ?_ _ | refine Bel.drewN ?_ _)) (own3.base_le hb1.size) (Bel.refl _)⟩
  · rw [if_pos h]
    have h' : (v != 0) = true := by simpa using h
    clear h hn hd
    go_enter Tryz.func12, Tryz.ntmps12
    go_wp2_with (go_at_call 28; refine (q.out _ (by (try simp only [ext_ext]); repeat (first | exact Bel.refl _ | assumption | refine bel_and ?_ _ | refine bel_drews ?_ _ | refine Bel.ext ?_ _ | refine Bel.alloc ?_ _ | refine Bel.drewN ?_ _))).mono ?_; rintro e _ ⟨A2, c2, rfl, x2, rfl, own2⟩)
    go_ret2
    exact ⟨none, 0, rfl, own_exists (by (try simp only [ext_ext]); repeat (first | exact Bel.refl _ | assumption | refine bel_and ?_ _ | refine bel_drews ?_ _ | refine Bel.ext ?_ _ | refine Bel.alloc ?_ _ | refine Bel.drewN ?_ _)) (Own.nil_ _ _ _ _) (Bel.refl _)⟩
end Go.Proofs.YthopjgahedijcaaGreat

namespace Go.Pel
open Go Go.RowKit
def ixI (l : List Int) (x : Int) : Int := match l.findIdx? (· == x) with | some k => (k : Int) | none => -1
theorem ixI_hit {l : List Int} {x : Int} {k : Nat} (hk : l[k]? = some x) (h : ∀ (i : Nat) (y : Int), i < k → l[i]? = some y → y ≠ x) : ixI l x = k := by
  have : l.findIdx? (· == x) = some k := by
    rw [List.findIdx?_eq_some_iff_getElem]
    obtain ⟨h1, h2⟩ := List.getElem?_eq_some_iff.1 hk
    refine ⟨h1, by simp [h2], fun j hj => ?_⟩
    have := h j _ hj (List.getElem?_eq_getElem (by omega))
    simpa using this
  unfold ixI; rw [this]
theorem ixI_miss {l : List Int} {x : Int} (h : ∀ (i : Nat) (y : Int), l[i]? = some y → y ≠ x) : ixI l x = -1 := by
  have : l.findIdx? (· == x) = none := by
    rw [List.findIdx?_eq_none_iff]
    intro y hy
    obtain ⟨i, hi⟩ := List.mem_iff_getElem?.1 hy
    simpa using h i y hi
  unfold ixI; rw [this]
theorem ixI_range (l : List Int) (x : Int) : ixI l x = -1 ∨ (0 ≤ ixI l x ∧ ixI l x < l.length ∧ l[(ixI l x).toNat]? = some x) := by
  unfold ixI
  cases h : l.findIdx? (· == x) with
  | none => exact .inl rfl
  | some k =>
    rw [List.findIdx?_eq_some_iff_getElem] at h
    obtain ⟨h1, h2, _⟩ := h
    refine .inr ⟨by simp, by simpa using h1, ?_⟩
    simp [h1]; simpa using h2
theorem sl_int {w : World} {b o n c : Nat} {l : List Int} (h : Sl w 1 (some ⟨b, o, none⟩) n c (vi l)) {k : Nat} {x : Int} (hx : l[k]? = some x) : w.cell? ⟨b, o + k, none⟩ = some (.int .i64 x) := by
  have hl := h.2.1
  have hk := (List.getElem?_eq_some_iff.1 hx).1
  obtain ⟨b', o', hA, _, hc⟩ := h.2.2 (by simp [vi] at hl; omega)
  injection hA with hA; injection hA with h1 h2
  subst h1 h2
  exact hc k _ (by simp [vi, hx])
def fieldRank (l : List Pt) (id n d : Int) : Int × Int := if (fieldOrder l n d).2 ≠ 0 then (0, (fieldOrder l n d).2) else if ixI (fieldOrder l n d).1 id < 0 then (0, 6) else (ixI (fieldOrder l n d).1 id, 0)
end Go.Pel
namespace Go.Proofs.YthopjgahedijcaaGreat
open Go.RowKit Go.Pel
end Go.Proofs.YthopjgahedijcaaGreat

namespace Go.Pel
open Go Go.RowKit
def rankR (l : List Pt) (p : Pt) (n d : Int) : Nat := (l.filter fun q => (q.id != p.id) && leads q p n d).length
theorem rankR_snoc (l : List Pt) (x p : Pt) (n d : Int) : rankR (l ++ [x]) p n d = rankR l p n d + (if ((x.id != p.id) && leads x p n d) = true then 1 else 0) := by
  unfold rankR; rw [List.filter_append, List.length_append]
  congr 1
  rw [List.filter_cons]; split <;> simp
theorem rankR_le (l : List Pt) (p : Pt) (n d : Int) : rankR l p n d ≤ l.length := List.length_filter_le _ _
def timed (l : List Pt) (n d : Int) : Int := if fieldChk l ≠ 0 then fieldChk l else ratioChk n d
end Go.Pel
namespace Go.Proofs.YthopjgahedijcaaGreat
open Go.RowKit Go.Pel
set_option maxRecDepth 10000 in
set_option maxHeartbeats 2000000 in
theorem sameIDs_any (A B : Option Addr) (c d : Nat) (l m : List Int) (w : World) (hs : Sl w 1 A l.length c (vi l)) (ht : Sl w 1 B m.length d (vi m)) (hl : l.length ≤ 1000000) (hm : m.length ≤ 1000000) :
    Calls Tryz.prog 13 #[.slice A l.length c, .slice B m.length d] w fun e w' => e = .returned (.bool (decide (l = m))) ∧ ∃ x, w' = ext w x := by
  by_cases hn : l.length = m.length
  · have z0 : ((l.length : Int) != (m.length : Int)) = false := by rw [bne_eq_false_iff_eq]; omega
    have HN := Lib.hid hn
    have hle1 : l.length ≤ m.length := by omega
    have hle2 : m.length ≤ l.length := by omega
    clear hn
    go_enter Tryz.func13, Tryz.ntmps13
    go_wp2
    go_loopw [5] (fun i wr => ∃ (k : Nat), k ≤ l.length ∧ i = .int .i64 k ∧ l.take k = m.take k ∧ ∃ y, wr = ext w y) (fun i _ => l.length - (intOf i).toNat)
    case atStart => exact ⟨0, Nat.zero_le _, rfl, rfl, ext_of (Bel.refl _)⟩
    case round =>
      obtain ⟨k, hk, rfl, hgo, y, rfl⟩ := hrel
      have HG := Lib.hid hgo; clear hgo
      by_cases hlt : k < l.length
      · obtain ⟨x, hx⟩ : ∃ x, l[k]? = some x := ⟨_, List.getElem?_eq_getElem hlt⟩
        obtain ⟨x', hx'⟩ : ∃ x, m[k]? = some x := ⟨_, List.getElem?_eq_getElem (by omega)⟩
        obtain ⟨b, o, rfl, hb⟩ := hs.at_ (by omega)
        obtain ⟨b2, o2, rfl, hb2⟩ := ht.at_ (by omega)
        have r0 := sl_int hs hx
        have q0 := sl_int ht hx'
        have HX := Lib.hid hx
        have HX' := Lib.hid hx'
        have hlt1 : (k : Int) < (l.length : Int) := by omega
        have hlt2 : (k : Int) < (m.length : Int) := by omega
        clear hx hx'
        have HE := Lib.hid (show l.take (k + 1) = l.take k ++ [x] by rw [List.take_add_one, HX.out]; rfl)
        have HE' := Lib.hid (show m.take (k + 1) = m.take k ++ [x'] by rw [List.take_add_one, HX'.out]; rfl)
        by_cases hxy : x = x'
        · subst hxy
          have heq : (x != x) = false := by simp
          go_wp2
          ((first | refine RegC.wp_region_ext1 (by kernel_rfl) (by kernel_rfl) ?_ | refine RegC.wp_region_ext0 (by kernel_rfl) (by kernel_rfl) ?_); (repeat (any_goals (first | go_big_quiet_step (fail) | (refine RegC.wpQuiet_split rfl rfl (fun hb => ?_) (fun hb => ?_) <;> simp only [hb])))); all_goals (refine wpQuiet_nil ?_; rintro _ ⟨nq, rfl⟩))
          go_wp2
          go_roundw
          case rel =>
            refine ⟨k + 1, by omega, by go_num, ?_, ext_of (by (try simp only [ext_ext]); repeat (first | exact Bel.refl _ | assumption | refine bel_and ?_ _ | refine bel_drews ?_ _ | refine Bel.ext ?_ _ | refine Bel.alloc ?_ _ | refine Bel.drewN ?_ _))⟩
            rw [HE.out, HE'.out, HG.out]
          case measure => (first | (simp [intOf]; done) | (simp [intOf]; omega))
        · have heq : (x != x') = true := by simpa using hxy
          have z1 : decide (l = m) = false := by rw [decide_eq_false_iff_not]; intro h; apply hxy; have h1 := HX.out; rw [h, HX'.out] at h1; exact (Option.some.inj h1).symm
          have Z1 := Lib.hid z1
          clear z1 hxy
          go_wp2
          ((first | refine RegC.wp_region_ext1 (by kernel_rfl) (by kernel_rfl) ?_ | refine RegC.wp_region_ext0 (by kernel_rfl) (by kernel_rfl) ?_); (repeat (any_goals (first | go_big_quiet_step (fail) | (refine RegC.wpQuiet_split rfl rfl (fun hb => ?_) (fun hb => ?_) <;> simp only [hb])))); all_goals (refine wpQuiet_nil ?_; rintro _ ⟨nq, rfl⟩))
          go_wp2
          (go_ret; exact ⟨ret_bool (by exact Z1.out.symm), ext_of (by (try simp only [ext_ext]); repeat (first | exact Bel.refl _ | assumption | refine bel_and ?_ _ | refine bel_drews ?_ _ | refine Bel.ext ?_ _ | refine Bel.alloc ?_ _ | refine Bel.drewN ?_ _))⟩)
      · have z1 : decide (l = m) = true := by
          rw [decide_eq_true_eq]
          have h := HG.out
          obtain rfl : k = l.length := by omega
          rw [List.take_length] at h
          rw [h, HN.out, List.take_length]
        have Z1 := Lib.hid z1
        clear z1
        go_wp2
        (go_ret; exact ⟨ret_bool (by exact Z1.out.symm), ext_of (by (try simp only [ext_ext]); repeat (first | exact Bel.refl _ | assumption | refine bel_and ?_ _ | refine bel_drews ?_ _ | refine Bel.ext ?_ _ | refine Bel.alloc ?_ _ | refine Bel.drewN ?_ _))⟩)
  · have z0 : ((l.length : Int) != (m.length : Int)) = true := by rw [bne_iff_ne]; omega
    have Z1 := Lib.hid (show decide (l = m) = false by rw [decide_eq_false_iff_not]; intro h; exact hn (by rw [h]))
    clear hn
    go_enter Tryz.func13, Tryz.ntmps13
    go_wp2
    (go_ret; exact ⟨ret_bool (by exact Z1.out.symm), ext_of (by (try simp only [ext_ext]); repeat (first | exact Bel.refl _ | assumption | refine bel_and ?_ _ | refine bel_drews ?_ _ | refine Bel.ext ?_ _ | refine Bel.alloc ?_ _ | refine Bel.drewN ?_ _))⟩)
end Go.Proofs.YthopjgahedijcaaGreat

namespace Go.Proofs.YthopjgahedijcaaGreat
open Go Go.Tx Go.RowKit Go.Pel
theorem vr_quad {η : Emb} {a b c d : Int} {v : Value} (hv : VR η (.agg [.int .i64 a, .int .i64 b, .int .i64 c, .int .i64 d]) v) : v = .agg #[.int .i64 a, .int .i64 b, .int .i64 c, .int .i64 d] := by
  cases hv with
  | agg hl hh =>
    obtain ⟨u1, vs, rfl, h1, h⟩ := VRs.uncons ⟨hl, hh⟩
    obtain ⟨u2, vs, rfl, h2, h⟩ := VRs.uncons h
    obtain ⟨u3, u4, rfl, h3, h4⟩ := vrs2 h
    cases h1; cases h2; cases h3; cases h4; rfl
def sumB (a b c d : Int) : Bool := decide ((-9223372036854775808 ≤ a ∧ a < 9223372036854775808) ∧ (-9223372036854775808 ≤ b ∧ b < 9223372036854775808) ∧ (-9223372036854775808 ≤ c ∧ c < 9223372036854775808) ∧ (-9223372036854775808 ≤ d ∧ d < 9223372036854775808) ∧ (-38685626227668133590597632 ≤ a * b ∧ a * b ≤ 38685626227668133590597632) ∧ (-38685626227668133590597632 ≤ c * d ∧ c * d ≤ 38685626227668133590597632))
theorem sumB_any {a b c d : Int} (h : sumB a b c d = true) (w : World) : Calls Tryz.prog 89 #[.agg #[.int .i64 a, .int .i64 b, .int .i64 c, .int .i64 d]] w fun e w' => e = .returned (.agg #[.int .i64 ((a * b + c * d) / 18446744073709551616), .int .u64 ((a * b + c * d) % 18446744073709551616)]) ∧ ∃ x, w' = ext w x := by
  obtain ⟨h1, h2, h3, h4, h5, h6⟩ := of_decide_eq_true h
  exact sum_any a b c d w h1 h2 h3 h4 h5 h6
end Go.Proofs.YthopjgahedijcaaGreat

namespace Go.Pel
open Go Go.Tx
theorem ids_nodupI {l : List Pt} (h : incB l = true) : (l.map Pt.id).Nodup := by
  unfold List.Nodup
  rw [List.pairwise_iff_getElem]
  intro i j hi hj hij
  simp only [List.length_map] at hi hj
  have := inc_lt h hij (List.getElem?_eq_getElem hi) (List.getElem?_eq_getElem hj)
  simp; omega
theorem leads_key (p q : Pt) (n d : Int) : leads p q n d = true ↔ (q.a * d + q.b * n < p.a * d + p.b * n) ∨ (q.a * d + q.b * n = p.a * d + p.b * n ∧ (q.b < p.b ∨ (q.b = p.b ∧ p.id < q.id))) := by
  have e : farD p q n d = (p.a * d + p.b * n) - (q.a * d + q.b * n) := by unfold farD; rw [Int.sub_mul, Int.sub_mul]; omega
  unfold leads
  rw [e]
  generalize p.a * d + p.b * n = P
  generalize q.a * d + q.b * n = Q
  repeat' split
  all_goals simp only [decide_eq_true_eq]
  all_goals omega
def ordI (n d : Int) (l : List Pt) : List Pt := sortL (fun p q => leads p q n d) l
def fieldOrderI (l : List Pt) (n d : Int) : List Int × Int := if fieldChk l ≠ 0 then ([], fieldChk l) else if ratioChk n d ≠ 0 then ([], ratioChk n d) else ((ordI n d l).map Pt.id, 0)
theorem ordI_perm (n d : Int) (l : List Pt) : (ordI n d l).Perm l := sortL_perm _ l
theorem leads_f {p q : Pt} {n d : Int} (h : leads p q n d = false) : ¬ ((q.a * d + q.b * n < p.a * d + p.b * n) ∨ (q.a * d + q.b * n = p.a * d + p.b * n ∧ (q.b < p.b ∨ (q.b = p.b ∧ p.id < q.id)))) := by
  intro k; rw [(leads_key p q n d).2 k] at h; cases h
theorem ordI_pw (n d : Int) (l : List Pt) : (ordI n d l).Pairwise fun p q => leads q p n d = false := by
  refine sortL_pw (S := fun _ => True) (fun a b _ _ h => ?_) (fun a b c _ _ _ h1 h2 => ?_) l (fun _ _ => trivial)
  · rw [leads_key] at h
    rw [← Bool.not_eq_true, leads_key]; omega
  · have h1 := leads_f h1
    have h2 := leads_f h2
    rw [← Bool.not_eq_true, leads_key]; omega
theorem ordI_eq {n d : Int} {l : List Pt} (hinc : incB l = true) (hd : 1 ≤ d) : sortP n d l = ordI n d l := by
  refine List.Perm.eq_of_pairwise (le := fun p q => leads q p n d = false) ?_ ((sortP_pairwise (idsApart_inc hinc) (ids_nodupI hinc)).imp fun {a b} h => ?_) (ordI_pw n d l) ((sortP_perm n d l).trans (ordI_perm n d l).symm)
  · intro a b _ _ h k
    have h1 := leads_f h
    have h2 := leads_f k
    have e1 : a.b = b.b := by omega
    have e2 : a.id = b.id := by omega
    have e3 : a.a * d + a.b * n = b.a * d + b.b * n := by omega
    rw [e1] at e3
    have e4 : a.a * d = b.a * d := by omega
    have e5 := Int.eq_of_mul_eq_mul_right (by omega) e4
    obtain ⟨x, y, z⟩ := a
    obtain ⟨x', y', z'⟩ := b
    simp only at e1 e2 e5
    subst e1 e2 e5
    rfl
  · rw [leads_key] at h
    rw [← Bool.not_eq_true, leads_key]; omega
theorem order_I (l : List Pt) (n d : Int) : fieldOrder l n d = fieldOrderI l n d := by
  unfold fieldOrder fieldSorted fieldOrderI
  by_cases h1 : fieldChk l = 0
  · simp only [h1, ne_eq, not_true_eq_false, if_false]
    by_cases h2 : ratioChk n d = 0
    · simp only [h2, ne_eq, not_true_eq_false, if_false]
      rw [ordI_eq (fieldChk_zero h1).2.2 (ratioChk_zero h2).1]
    · simp only [h2, ne_eq, not_false_eq_true, if_true]
  · simp only [h1, ne_eq, not_false_eq_true, if_true]
end Go.Pel

namespace Go.Proofs.YthopjgahedijcaaGreat
open Go Go.Tx Go.Pel Go.Proofs.Tryz
set_option maxRecDepth 100000
set_option maxHeartbeats 0
abbrev ref03_SameIDs_ps : List Pk := [.row RLiE false, .row RLiE false]
abbrev ref03_SameIDs_X : Type := DLiE × DLiE × Unit
abbrev ref03_SameIDs_R : Type := Bool
def ref03_SameIDs_enc (r : ref03_SameIDs_R) : LV × List Ob := (.bool r, [])
def ref03_SameIDs_sp (F : ref03_SameIDs_X → Option ref03_SameIDs_R) : Go.Tx.Spec := ⟨13, ref03_SameIDs_ps, ref03_SameIDs_R, F, ref03_SameIDs_enc⟩
def ref03_SameIDs_if (x : ref03_SameIDs_X) : Bool := decide ((idsI x.1.1).length ≤ 1000000) && decide ((idsI x.2.1.1).length ≤ 1000000)
def F_ref03_SameIDs (d : Nat) (x : ref03_SameIDs_X) : Option ref03_SameIDs_R := bif ref03_SameIDs_if x then some (decide ((idsI x.1.1) = (idsI x.2.1.1))) else none
theorem F_ref03_SameIDs_eq (d : Nat) (x : ref03_SameIDs_X) (h : ref03_SameIDs_if x = true) : F_ref03_SameIDs d x = some (decide ((idsI x.1.1) = (idsI x.2.1.1))) := by unfold F_ref03_SameIDs; rw [h]; rfl
theorem ref03_SameIDs_cok (d : Nat) : COK prog (ref03_SameIDs_sp (F_ref03_SameIDs d)) := by
  refine cok_old (body_of (fn := f13) (by kernel_rfl) (by kernel_rfl) (by kernel_rfl)) fun x r hx w φ vs hφ hv => ?_
  have hx : F_ref03_SameIDs d x = some r := hx
  unfold F_ref03_SameIDs at hx
  obtain ⟨hc, rfl⟩ := bif_some hx
  have hv : VRs (Emb.fro φ) [.fz RI x.1.1, .fz RI x.2.1.1] vs := hv
  obtain ⟨v0, vs, rfl, q0, hv⟩ := VRs.uncons hv
  obtain ⟨v1, rfl, q1⟩ := vrs1 hv
  obtain ⟨A0, c0, rfl, s0, z0⟩ := vr_idsI hφ q0
  obtain ⟨A1, c1, rfl, s1, z1⟩ := vr_idsI hφ q1
  unfold ref03_SameIDs_if at hc
  simp only [Bool.and_eq_true] at hc
  obtain ⟨h1, h2⟩ := hc
  replace h1 := of_decide_eq_true h1
  replace h2 := of_decide_eq_true h2
  refine (sameIDs_any A0 A1 c0 c1 (idsI x.1.1) (idsI x.2.1.1) w s0 s1 h1 h2).mono ?_
  rintro e w' ⟨rfl, y, rfl⟩
  exact gives_pure hφ (.bool _) y
abbrev field_Find_ps : List Pk := [.row RLiiiE true, .row Ri false]
abbrev field_Find_X : Type := DLiiiE × Di × Unit
abbrev field_Find_R : Type := Int × Int × Int × Int
def field_Find_enc (r : field_Find_R) : LV × List Ob := (.tup [.agg [.int .i64 r.1, .int .i64 r.2.1, .int .i64 r.2.2.1], .int .i64 r.2.2.2], [])
def field_Find_sp (F : field_Find_X → Option field_Find_R) : Go.Tx.Spec := ⟨14, field_Find_ps, field_Find_R, F, field_Find_enc⟩
def field_Find_if (x : field_Find_X) : Bool := true
def F_field_Find (d : Nat) (x : field_Find_X) : Option field_Find_R := bif field_Find_if x then some ((fieldFind (ptsL x.1.1) x.2.1.1).1.id, (fieldFind (ptsL x.1.1) x.2.1.1).1.a, (fieldFind (ptsL x.1.1) x.2.1.1).1.b, (fieldFind (ptsL x.1.1) x.2.1.1).2) else none
theorem F_field_Find_eq (d : Nat) (x : field_Find_X) (h : field_Find_if x = true) : F_field_Find d x = some ((fieldFind (ptsL x.1.1) x.2.1.1).1.id, (fieldFind (ptsL x.1.1) x.2.1.1).1.a, (fieldFind (ptsL x.1.1) x.2.1.1).1.b, (fieldFind (ptsL x.1.1) x.2.1.1).2) := by unfold F_field_Find; rw [h]; rfl
theorem field_Find_cok (d : Nat) : COK prog (field_Find_sp (F_field_Find d)) := by
  refine cok_old (body_of (fn := f14) (by kernel_rfl) (by kernel_rfl) (by kernel_rfl)) fun x r hx w φ vs hφ hv => ?_
  have hx : F_field_Find d x = some r := hx
  unfold F_field_Find at hx
  obtain ⟨hc, rfl⟩ := bif_some hx
  have hv : VRs (Emb.fro φ) [.agg [.fz RP x.1.1], .int .i64 x.2.1.1] vs := hv
  obtain ⟨v0, vs, rfl, q0, hv⟩ := VRs.uncons hv
  obtain ⟨v1, rfl, q1⟩ := vrs1 hv
  obtain ⟨A0, c0, rfl, s0, z0⟩ := vr_fld hφ q0
  have r1 := vr_int q1; subst r1
  refine (fieldFind_any A0 c0 (ptsL x.1.1) x.2.1.1 w s0).mono ?_
  rintro e w' ⟨rfl, y, rfl⟩
  exact gives_pure hφ (VR.tupL (VRs.cons (VR.aggL (VRs.cons (.int _ _) (VRs.cons (.int _ _) (VRs.cons (.int _ _) VRs.nil)))) (VRs.cons (.int _ _) VRs.nil))) y
abbrev field_Order_ps : List Pk := [.row RLiiiE true, .row Rii true]
abbrev field_Order_X : Type := DLiiiE × Dii × Unit
abbrev field_Order_R : Type := List Di × Int
def field_Order_enc (r : field_Order_R) : LV × List Ob := (.tup [.rs 0, .int .i64 r.2], [.rows Ri r.1])
def field_Order_sp (F : field_Order_X → Option field_Order_R) : Go.Tx.Spec := ⟨12, field_Order_ps, field_Order_R, F, field_Order_enc⟩
def field_Order_if (x : field_Order_X) : Bool := i64B x.2.1.1 && i64B x.2.1.2.1 && decide ((ptsL x.1.1).length ≤ 1000000)
def F_field_Order (d : Nat) (x : field_Order_X) : Option field_Order_R := bif field_Order_if x then some (unI (fieldOrderI (ptsL x.1.1) x.2.1.1 x.2.1.2.1).1, (fieldOrderI (ptsL x.1.1) x.2.1.1 x.2.1.2.1).2) else none
theorem F_field_Order_eq (d : Nat) (x : field_Order_X) (h : field_Order_if x = true) : F_field_Order d x = some (unI (fieldOrderI (ptsL x.1.1) x.2.1.1 x.2.1.2.1).1, (fieldOrderI (ptsL x.1.1) x.2.1.1 x.2.1.2.1).2) := by unfold F_field_Order; rw [h]; rfl
theorem field_Order_cok (d : Nat) : COK prog (field_Order_sp (F_field_Order d)) := by
  refine cok_old (body_of (fn := f12) (by kernel_rfl) (by kernel_rfl) (by kernel_rfl)) fun x r hx w φ vs hφ hv => ?_
  have hx : F_field_Order d x = some r := hx
  unfold F_field_Order at hx
  obtain ⟨hc, rfl⟩ := bif_some hx
  have hv : VRs (Emb.fro φ) [.agg [.fz RP x.1.1], .agg [.int .i64 x.2.1.1, .int .i64 x.2.1.2.1]] vs := hv
  obtain ⟨v0, vs, rfl, q0, hv⟩ := VRs.uncons hv
  obtain ⟨v1, rfl, q1⟩ := vrs1 hv
  obtain ⟨A0, c0, rfl, s0, z0⟩ := vr_fld hφ q0
  have r1 := vr_ratio q1; subst r1
  unfold field_Order_if at hc
  simp only [Bool.and_eq_true] at hc
  obtain ⟨⟨h1, h2⟩, h3⟩ := hc
  replace h3 := of_decide_eq_true h3
  refine ((order_I (ptsL x.1.1) x.2.1.1 x.2.1.2.1) ▸ order_any A0 c0 (ptsL x.1.1) x.2.1.1 x.2.1.2.1 w (i64B_iff h1) (i64B_iff h2) s0 z0 h3).mono ?_
  rintro e w' ⟨A', c', rfl, y, rfl, ho⟩
  exact gives_own hφ (τ := Ri) rfl (unI_len _) ho (valsL_unI _) fun η e0 => VR.tupL (VRs.cons (.rs e0) (VRs.cons (.int _ _) VRs.nil))
end Go.Proofs.YthopjgahedijcaaGreat

namespace Go.Proofs.YthopjgahedijcaaGreat
open Go Go.Tx Go.Proofs.Tryz
set_option maxRecDepth 100000
set_option maxHeartbeats 0
abbrev law04_great_ps : List Pk := [.row RLiiiE true]
abbrev law04_great_X : Type := DLiiiE × Unit
abbrev law04_great_R : Type := Bool
def law04_great_enc (r : law04_great_R) : LV × List Ob := (.bool r, [])
def law04_great_sp (F : law04_great_X → Option law04_great_R) : Go.Tx.Spec := ⟨15, law04_great_ps, law04_great_R, F, law04_great_enc⟩
abbrev law04_great_C : Type := (ref03_Great_X → Option ref03_Great_R) × Unit
def law04_great_K (d : Nat) : law04_great_C := (F_ref03_Great d, ())
def law04_great_tab (C : law04_great_C) : List Go.Tx.Spec := [ref03_Great_sp C.1]
abbrev law04_great_Y0i : Type := List Diii
def law04_great_S0i (v : law04_great_Y0i) : St := ⟨[(0, .agg [.fz Riii v])], []⟩
abbrev law04_great_Y0 : Type := List Diii
def law04_great_S0 (v : law04_great_Y0) : St := ⟨[(1, .ptr 0 0)], [.cells [.fz Riii v]]⟩
def law04_great_r0 (C : law04_great_C) (v : law04_great_Y0i) : Dt law04_great_Y0 := (Dt.ret v)
theorem law04_great_g0 (C : law04_great_C) (v : law04_great_Y0i) : treg tysT (orc (law04_great_tab C)) 11 (regO (bodyOf f15) 0) false [(1, (.box [.val Riii]))] (law04_great_S0i v) some = (law04_great_r0 C v).eval fun y => some (law04_great_S0 y) := by kernel_rfl
abbrev law04_great_Y1 : Type := Bool
def law04_great_S1 (v : law04_great_Y1) : St := ⟨[(2, .bool v)], []⟩
def law04_great_r1 (C : law04_great_C) (v : law04_great_Y0) : Dt law04_great_Y1 := (Dt.bnd (C.1 ((v, ()), ())) fun r1 => (Dt.ite r1 (Dt.ret true) (Dt.ret ((List.length v : Int) == (64:Int)))))
theorem law04_great_g1 (C : law04_great_C) (v : law04_great_Y0) : treg tysT (orc (law04_great_tab C)) 11 (regO (bodyOf f15) 1) false [(2, .any)] (law04_great_S0 v) some = (law04_great_r1 C v).eval fun y => some (law04_great_S1 y) := by kernel_rfl
def F_law04_great (d : Nat) (x : law04_great_X) : Option law04_great_R :=
  (law04_great_r0 (law04_great_K d) x.1.1).eval fun y0 =>
  (law04_great_r1 (law04_great_K d) y0).eval fun y1 =>
  some y1
theorem law04_great_cok (d : Nat) : COK prog (law04_great_sp (F_law04_great d)) := by
  have hm : prog.follows .mixedOrders = true := mixed
  have hT := tys
  have hC0 : OrcOK prog (orc (law04_great_tab (law04_great_K d))) := orc_ok (by
    intro S hS
    simp only [law04_great_tab, List.mem_cons, List.not_mem_nil, or_false] at hS
    subst hS; exact ref03_Great_cok d)
  have hC : OrcOK prog (orc (law04_great_tab (law04_great_K d))) := hC0
  refine cok_of (c := bodyOf f15) (fn := f15) hT (by kernel_rfl) (by kernel_rfl) (by decide) fun x r h w0 φ0 Q hend => ?_
  replace h : F_law04_great d x = some r := h
  unfold F_law04_great at h
  show Run prog w0 φ0 11 (bodyOf f15) ⟨[(0, .agg [.fz Riii x.1.1])], []⟩ Q
  refine run_seq ?_
  refine run_reg hm hT hC (law04_great_g0 (law04_great_K d) x.1.1) h ?_
  intro y0 h
  refine cn_then ?_
  refine run_seq ?_
  refine run_reg hm hT hC (law04_great_g1 (law04_great_K d) y0) h ?_
  intro y1 h
  refine cn_then ?_
  refine run_ret ?_
  cases h
  exact (hend _ (by kernel_rfl)).2
abbrev law04_fit_ps : List Pk := [.row RLiiiE true, .row Rii true, .row Rii true]
abbrev law04_fit_X : Type := DLiiiE × Dii × Dii × Unit
abbrev law04_fit_R : Type := Bool
def law04_fit_enc (r : law04_fit_R) : LV × List Ob := (.bool r, [])
def law04_fit_sp (F : law04_fit_X → Option law04_fit_R) : Go.Tx.Spec := ⟨4, law04_fit_ps, law04_fit_R, F, law04_fit_enc⟩
abbrev law04_fit_C : Type := (law04_great_X → Option law04_great_R) × (ref04_Times_X → Option ref04_Times_R) × Unit
def law04_fit_K (d : Nat) : law04_fit_C := (F_law04_great d, F_ref04_Times d, ())
def law04_fit_tab (C : law04_fit_C) : List Go.Tx.Spec := [law04_great_sp C.1, ref04_Times_sp C.2.1]
abbrev law04_fit_Y0i : Type := List Diii × Int × Int × Int × Int
def law04_fit_S0i (v : law04_fit_Y0i) : St := ⟨[(0, .agg [.fz Riii v.1]), (1, .agg [.int .i64 v.2.1, .int .i64 v.2.2.1]), (2, .agg [.int .i64 v.2.2.2.1, .int .i64 v.2.2.2.2])], []⟩
abbrev law04_fit_Y0 : Type := List Diii × Int × Int × Int × Int
def law04_fit_S0 (v : law04_fit_Y0) : St := ⟨[(3, .ptr 0 0), (4, .ptr 1 0), (5, .ptr 2 0)], [.cells [.fz Riii v.1], .cells [.int .i64 v.2.1, .int .i64 v.2.2.1], .cells [.int .i64 v.2.2.2.1, .int .i64 v.2.2.2.2]]⟩
def law04_fit_r0 (C : law04_fit_C) (v : law04_fit_Y0i) : Dt law04_fit_Y0 := (Dt.ret (v.1, v.2.1, v.2.2.1, v.2.2.2.1, v.2.2.2.2))
theorem law04_fit_g0 (C : law04_fit_C) (v : law04_fit_Y0i) : treg tysT (orc (law04_fit_tab C)) 17 (regO (bodyOf f4) 0) false [(3, (.box [.val Riii])), (4, .any), (5, .any)] (law04_fit_S0i v) some = (law04_fit_r0 C v).eval fun y => some (law04_fit_S0 y) := by kernel_rfl
abbrev law04_fit_Y1 : Type := Bool
def law04_fit_S1 (v : law04_fit_Y1) : St := ⟨[(6, .bool v)], []⟩
def law04_fit_r1 (C : law04_fit_C) (v : law04_fit_Y0) : Dt law04_fit_Y1 := (Dt.bnd (C.1 ((v.1, ()), ())) fun r1 => (Dt.ite (!r1) (Dt.bnd (C.2.1 ((v.1, ()), (v.2.1, v.2.2.1, ()), (v.2.2.2.1, v.2.2.2.2, ()), ())) fun r2 => (Dt.ret (r2 == (0:Int)))) (Dt.ret false)))
theorem law04_fit_g1 (C : law04_fit_C) (v : law04_fit_Y0) : treg tysT (orc (law04_fit_tab C)) 17 (regO (bodyOf f4) 1) false [(6, .any)] (law04_fit_S0 v) some = (law04_fit_r1 C v).eval fun y => some (law04_fit_S1 y) := by kernel_rfl
def F_law04_fit (d : Nat) (x : law04_fit_X) : Option law04_fit_R :=
  (law04_fit_r0 (law04_fit_K d) (x.1.1, x.2.1.1, x.2.1.2.1, x.2.2.1.1, x.2.2.1.2.1)).eval fun y0 =>
  (law04_fit_r1 (law04_fit_K d) y0).eval fun y1 =>
  some y1
theorem law04_fit_cok (d : Nat) : COK prog (law04_fit_sp (F_law04_fit d)) := by
  have hm : prog.follows .mixedOrders = true := mixed
  have hT := tys
  have hC0 : OrcOK prog (orc (law04_fit_tab (law04_fit_K d))) := orc_ok (by
    intro S hS
    simp only [law04_fit_tab, List.mem_cons, List.not_mem_nil, or_false] at hS
    rcases hS with rfl | rfl
    · exact law04_great_cok d
    · exact ref04_Times_cok d)
  have hC : OrcOK prog (orc (law04_fit_tab (law04_fit_K d))) := hC0
  refine cok_of (c := bodyOf f4) (fn := f4) hT (by kernel_rfl) (by kernel_rfl) (by decide) fun x r h w0 φ0 Q hend => ?_
  replace h : F_law04_fit d x = some r := h
  unfold F_law04_fit at h
  show Run prog w0 φ0 17 (bodyOf f4) ⟨[(0, .agg [.fz Riii x.1.1]), (1, .agg [.int .i64 x.2.1.1, .int .i64 x.2.1.2.1]), (2, .agg [.int .i64 x.2.2.1.1, .int .i64 x.2.2.1.2.1])], []⟩ Q
  refine run_seq ?_
  refine run_reg hm hT hC (law04_fit_g0 (law04_fit_K d) (x.1.1, x.2.1.1, x.2.1.2.1, x.2.2.1.1, x.2.2.1.2.1)) h ?_
  intro y0 h
  refine cn_then ?_
  refine run_seq ?_
  refine run_reg hm hT hC (law04_fit_g1 (law04_fit_K d) y0) h ?_
  intro y1 h
  refine cn_then ?_
  refine run_ret ?_
  cases h
  exact (hend _ (by kernel_rfl)).2
abbrev law04_given_ps : List Pk := []
abbrev law04_given_X : Type := Unit
abbrev law04_given_R : Type := List Diii
def law04_given_enc (r : law04_given_R) : LV × List Ob := (.agg [.rs 0], [.rows Riii r])
def law04_given_sp (F : law04_given_X → Option law04_given_R) : Go.Tx.Spec := ⟨18, law04_given_ps, law04_given_R, F, law04_given_enc⟩
abbrev law04_given_C : Type := Unit
def law04_given_K (_d : Nat) : law04_given_C := ()
def law04_given_tab (C : law04_given_C) : List Go.Tx.Spec := []
abbrev law04_given_Y0i : Type := Unit
def law04_given_S0i (v : law04_given_Y0i) : St := ⟨[], []⟩
abbrev law04_given_Y0 : Type := List Diii
def law04_given_S0 (v : law04_given_Y0) : St := ⟨[(0, .ptr 0 0)], [.cells [.rs 1], .rows Riii v]⟩
def law04_given_r0 (C : law04_given_C) (v : law04_given_Y0i) : Dt law04_given_Y0 := (Dt.ret ([] : List Diii))
theorem law04_given_g0 (C : law04_given_C) (v : law04_given_Y0i) : treg tysT (orc (law04_given_tab C)) 6 (regO (bodyOf f18) 0) false [(0, (.box [.own Riii]))] (law04_given_S0i v) some = (law04_given_r0 C v).eval fun y => some (law04_given_S0 y) := by kernel_rfl
def law04_given_r1 (C : law04_given_C) (v : law04_given_Y0) : Dt law04_given_Y0 := (Dt.ret ([((1:Int), (0:Int), (2:Int), ()), ((2:Int), (6:Int), (-1:Int), ()), ((5:Int), (0:Int), (0:Int), ())] : List Diii))
theorem law04_given_g1 (C : law04_given_C) (v : law04_given_Y0) : treg tysT (orc (law04_given_tab C)) 6 (regO (bodyOf f18) 1) false [(0, (.box [.own Riii]))] (law04_given_S0 v) some = (law04_given_r1 C v).eval fun y => some (law04_given_S0 y) := by kernel_rfl
def F_law04_given (d : Nat) (x : law04_given_X) : Option law04_given_R :=
  (law04_given_r0 (law04_given_K d) ()).eval fun y0 =>
  (law04_given_r1 (law04_given_K d) y0).eval fun y1 =>
  some y1
theorem law04_given_cok (d : Nat) : COK prog (law04_given_sp (F_law04_given d)) := by
  have hm : prog.follows .mixedOrders = true := mixed
  have hT := tys
  have hC0 : OrcOK prog (orc (law04_given_tab (law04_given_K d))) := orc_ok (by
    intro S hS
    simp only [law04_given_tab, List.mem_cons, List.not_mem_nil, or_false] at hS
    all_goals first | cases hS | exact hS.elim)
  have hC : OrcOK prog (orc (law04_given_tab (law04_given_K d))) := hC0
  refine cok_of (c := bodyOf f18) (fn := f18) hT (by kernel_rfl) (by kernel_rfl) (by decide) fun x r h w0 φ0 Q hend => ?_
  replace h : F_law04_given d x = some r := h
  unfold F_law04_given at h
  show Run prog w0 φ0 6 (bodyOf f18) ⟨[], []⟩ Q
  refine run_seq ?_
  refine run_reg hm hT hC (law04_given_g0 (law04_given_K d) ()) h ?_
  intro y0 h
  refine cn_then ?_
  refine run_seq ?_
  refine run_reg hm hT hC (law04_given_g1 (law04_given_K d) y0) h ?_
  intro y1 h
  refine cn_then ?_
  refine run_ret ?_
  cases h
  exact (hend _ (by kernel_rfl)).2
abbrev law04_at_ps : List Pk := [.row Ri false]
abbrev law04_at_X : Type := Di × Unit
abbrev law04_at_R : Type := Int × Int
def law04_at_enc (r : law04_at_R) : LV × List Ob := (.agg [.int .i64 r.1, .int .i64 r.2], [])
def law04_at_sp (F : law04_at_X → Option law04_at_R) : Go.Tx.Spec := ⟨9, law04_at_ps, law04_at_R, F, law04_at_enc⟩
abbrev law04_at_C : Type := Unit
def law04_at_K (_d : Nat) : law04_at_C := ()
def law04_at_tab (C : law04_at_C) : List Go.Tx.Spec := []
abbrev law04_at_Y0i : Type := Int
def law04_at_S0i (v : law04_at_Y0i) : St := ⟨[(0, .int .i64 v)], []⟩
abbrev law04_at_Y0 : Type := Int × Int × Int
def law04_at_S0 (v : law04_at_Y0) : St := ⟨[(0, .int .i64 v.1), (2, .ptr 0 0)], [.cells [.int .i64 v.2.1, .int .i64 v.2.2]]⟩
def law04_at_r0 (C : law04_at_C) (v : law04_at_Y0i) : Dt law04_at_Y0 := (Dt.ret (v, (0:Int), (0:Int)))
theorem law04_at_g0 (C : law04_at_C) (v : law04_at_Y0i) : treg tysT (orc (law04_at_tab C)) 5 (regO (bodyOf f9) 0) false [(0, .any), (2, .any)] (law04_at_S0i v) some = (law04_at_r0 C v).eval fun y => some (law04_at_S0 y) := by kernel_rfl
abbrev law04_at_Y1 : Type := Int × Int
def law04_at_S1 (v : law04_at_Y1) : St := ⟨[(2, .ptr 0 0)], [.cells [.int .i64 v.1, .int .i64 v.2]]⟩
def law04_at_r1 (C : law04_at_C) (v : law04_at_Y0) : Dt law04_at_Y1 := (Dt.ret (v.1, (1:Int)))
theorem law04_at_g1 (C : law04_at_C) (v : law04_at_Y0) : treg tysT (orc (law04_at_tab C)) 5 (regO (bodyOf f9) 1) false [(2, .any)] (law04_at_S0 v) some = (law04_at_r1 C v).eval fun y => some (law04_at_S1 y) := by kernel_rfl
def F_law04_at (d : Nat) (x : law04_at_X) : Option law04_at_R :=
  (law04_at_r0 (law04_at_K d) x.1.1).eval fun y0 =>
  (law04_at_r1 (law04_at_K d) y0).eval fun y1 =>
  some y1
theorem law04_at_cok (d : Nat) : COK prog (law04_at_sp (F_law04_at d)) := by
  have hm : prog.follows .mixedOrders = true := mixed
  have hT := tys
  have hC0 : OrcOK prog (orc (law04_at_tab (law04_at_K d))) := orc_ok (by
    intro S hS
    simp only [law04_at_tab, List.mem_cons, List.not_mem_nil, or_false] at hS
    all_goals first | cases hS | exact hS.elim)
  have hC : OrcOK prog (orc (law04_at_tab (law04_at_K d))) := hC0
  refine cok_of (c := bodyOf f9) (fn := f9) hT (by kernel_rfl) (by kernel_rfl) (by decide) fun x r h w0 φ0 Q hend => ?_
  replace h : F_law04_at d x = some r := h
  unfold F_law04_at at h
  show Run prog w0 φ0 5 (bodyOf f9) ⟨[(0, .int .i64 x.1.1)], []⟩ Q
  refine run_seq ?_
  refine run_reg hm hT hC (law04_at_g0 (law04_at_K d) x.1.1) h ?_
  intro y0 h
  refine cn_then ?_
  refine run_seq ?_
  refine run_reg hm hT hC (law04_at_g1 (law04_at_K d) y0) h ?_
  intro y1 h
  refine cn_then ?_
  refine run_ret ?_
  cases h
  exact (hend _ (by kernel_rfl)).2
abbrev law04_alive_ps : List Pk := []
abbrev law04_alive_X : Type := Unit
abbrev law04_alive_R : Type := Bool
def law04_alive_enc (r : law04_alive_R) : LV × List Ob := (.bool r, [])
def law04_alive_sp (F : law04_alive_X → Option law04_alive_R) : Go.Tx.Spec := ⟨5, law04_alive_ps, law04_alive_R, F, law04_alive_enc⟩
abbrev law04_alive_C : Type := (meet_Last_X → Option meet_Last_R) × (meet_Count_X → Option meet_Count_R) × (law04_at_X → Option law04_at_R) × (meet_All_X → Option meet_All_R) × (law04_given_X → Option law04_given_R) × (ref04_Same_X → Option ref04_Same_R) × Unit
def law04_alive_K (d : Nat) : law04_alive_C := (F_meet_Last d, F_meet_Count d, F_law04_at d, F_meet_All d, F_law04_given d, F_ref04_Same d, ())
def law04_alive_tab (C : law04_alive_C) : List Go.Tx.Spec := [meet_Last_sp C.1, meet_Count_sp C.2.1, law04_at_sp C.2.2.1, meet_All_sp C.2.2.2.1, law04_given_sp C.2.2.2.2.1, ref04_Same_sp C.2.2.2.2.2.1]
abbrev law04_alive_Y0i : Type := Unit
def law04_alive_S0i (v : law04_alive_Y0i) : St := ⟨[], []⟩
def law04_alive_r0 (C : law04_alive_C) (v : law04_alive_Y0i) : Dt law04_alive_Y0i := (Dt.ret ())
theorem law04_alive_g0 (C : law04_alive_C) (v : law04_alive_Y0i) : treg tysT (orc (law04_alive_tab C)) 58 (regO (bodyOf f5) 0) false [] (law04_alive_S0i v) some = (law04_alive_r0 C v).eval fun y => some (law04_alive_S0i y) := by kernel_rfl
abbrev law04_alive_Y1 : Type := List Diiii × Int
def law04_alive_S1 (v : law04_alive_Y1) : St := ⟨[(1, .fz Riiii v.1), (2, .int .i64 v.2)], []⟩
def law04_alive_r1 (C : law04_alive_C) (v : law04_alive_Y0i) : Dt law04_alive_Y1 := (Dt.bnd (C.2.2.2.2.1 (())) fun r1 => (Dt.bnd (C.2.2.1 (((-1:Int), ()), ())) fun r2 => (Dt.bnd (C.2.2.1 (((6:Int), ()), ())) fun r3 => (Dt.bnd (C.2.2.2.1 ((r1, ()), (r2.1, r2.2, ()), (r3.1, r3.2, ()), ())) fun r4 => (Dt.ret (r4.1, r4.2))))))
theorem law04_alive_g1 (C : law04_alive_C) (v : law04_alive_Y0i) : treg tysT (orc (law04_alive_tab C)) 58 (regO (bodyOf f5) 1) false [(1, (.val Riiii)), (2, .any)] (law04_alive_S0i v) some = (law04_alive_r1 C v).eval fun y => some (law04_alive_S1 y) := by kernel_rfl
abbrev law04_alive_Y2 : Type := List Diiii × Int × Int × Int
def law04_alive_S2 (v : law04_alive_Y2) : St := ⟨[(1, .fz Riiii v.1), (2, .int .i64 v.2.1), (3, .int .i64 v.2.2.1), (4, .int .i64 v.2.2.2)], []⟩
def law04_alive_r2 (C : law04_alive_C) (v : law04_alive_Y1) : Dt law04_alive_Y2 := (Dt.bnd (C.2.2.2.2.1 (())) fun r1 => (Dt.bnd (C.2.2.1 (((0:Int), ()), ())) fun r2 => (Dt.bnd (C.2.2.1 (((5:Int), ()), ())) fun r3 => (Dt.bnd (C.2.1 ((r1, ()), (r2.1, r2.2, ()), (r3.1, r3.2, ()), ())) fun r4 => (Dt.ret (v.1, v.2, r4.1, r4.2))))))
theorem law04_alive_g2 (C : law04_alive_C) (v : law04_alive_Y1) : treg tysT (orc (law04_alive_tab C)) 58 (regO (bodyOf f5) 2) false [(1, (.val Riiii)), (2, .any), (3, .any), (4, .any)] (law04_alive_S1 v) some = (law04_alive_r2 C v).eval fun y => some (law04_alive_S2 y) := by kernel_rfl
abbrev law04_alive_Y3 : Type := List Diiii × Int × Int × Int × Int × Int × Int
def law04_alive_S3 (v : law04_alive_Y3) : St := ⟨[(1, .fz Riiii v.1), (2, .int .i64 v.2.1), (3, .int .i64 v.2.2.1), (4, .int .i64 v.2.2.2.1), (5, .ptr 0 0), (6, .int .i64 v.2.2.2.2.1)], [.cells [.int .i64 v.2.2.2.2.2.1, .int .i64 v.2.2.2.2.2.2]]⟩
def law04_alive_r3 (C : law04_alive_C) (v : law04_alive_Y2) : Dt law04_alive_Y3 := (Dt.bnd (C.2.2.2.2.1 (())) fun r1 => (Dt.bnd (C.1 ((r1, ()), ())) fun r2 => (Dt.ret (v.1, v.2.1, v.2.2.1, v.2.2.2, r2.2.2, r2.1, r2.2.1))))
theorem law04_alive_g3 (C : law04_alive_C) (v : law04_alive_Y2) : treg tysT (orc (law04_alive_tab C)) 58 (regO (bodyOf f5) 3) false [(1, (.val Riiii)), (2, .any), (3, .any), (4, .any), (5, .any), (6, .any)] (law04_alive_S2 v) some = (law04_alive_r3 C v).eval fun y => some (law04_alive_S3 y) := by kernel_rfl
abbrev law04_alive_Y4 : Type := List Diiii × Int × Int × Int × Int × Int × Int × List Diiii
def law04_alive_S4 (v : law04_alive_Y4) : St := ⟨[(1, .fz Riiii v.1), (2, .int .i64 v.2.1), (3, .int .i64 v.2.2.1), (4, .int .i64 v.2.2.2.1), (5, .ptr 0 0), (6, .int .i64 v.2.2.2.2.1), (7, .rs 1)], [.cells [.int .i64 v.2.2.2.2.2.1, .int .i64 v.2.2.2.2.2.2.1], .rows Riiii v.2.2.2.2.2.2.2]⟩
def law04_alive_r4 (C : law04_alive_C) (v : law04_alive_Y3) : Dt law04_alive_Y4 := (Dt.bnd (C.2.2.1 (((0:Int), ()), ())) fun r1 => (Dt.bnd (C.2.2.1 (((2:Int), ()), ())) fun r2 => (Dt.bnd (C.2.2.1 (((6:Int), ()), ())) fun r3 => (Dt.ret (v.1, v.2.1, v.2.2.1, v.2.2.2.1, v.2.2.2.2.1, v.2.2.2.2.2.1, v.2.2.2.2.2.2, ([(r1.1, r1.2, (1:Int), (5:Int), ()), (r2.1, r2.2, (1:Int), (2:Int), ()), (r3.1, r3.2, (2:Int), (5:Int), ())] : List Diiii))))))
theorem law04_alive_g4 (C : law04_alive_C) (v : law04_alive_Y3) : treg tysT (orc (law04_alive_tab C)) 58 (regO (bodyOf f5) 4) false [(1, (.val Riiii)), (2, .any), (3, .any), (4, .any), (5, .any), (6, .any), (7, (.own Riiii))] (law04_alive_S3 v) some = (law04_alive_r4 C v).eval fun y => some (law04_alive_S4 y) := by kernel_rfl
abbrev law04_alive_Y5 : Type := Bool
def law04_alive_S5 (v : law04_alive_Y5) : St := ⟨[(0, .bool v)], []⟩
def law04_alive_r5 (C : law04_alive_C) (v : law04_alive_Y4) : Dt law04_alive_Y5 := (Dt.ite (v.2.1 == (0:Int)) (Dt.bnd (C.2.2.2.2.2.1 ((v.1, ()), (v.2.2.2.2.2.2.2, ()), ())) fun r1 => (Dt.ite r1 (Dt.ite (v.2.2.2.1 == (0:Int)) (Dt.ite (v.2.2.1 == (1:Int)) (Dt.ite (v.2.2.2.2.1 == (0:Int)) (Dt.bnd (C.2.2.1 (((6:Int), ()), ())) fun r2 => (Dt.ret ((v.2.2.2.2.2.1 == r2.1) && ((v.2.2.2.2.2.2.1 == r2.2) && true)))) (Dt.ret false)) (Dt.ret false)) (Dt.ret false)) (Dt.ret false))) (Dt.ret false))
theorem law04_alive_g5 (C : law04_alive_C) (v : law04_alive_Y4) : treg tysT (orc (law04_alive_tab C)) 58 (regO (bodyOf f5) 5) true [(0, .any)] (law04_alive_S4 v) some = (law04_alive_r5 C v).eval fun y => some (law04_alive_S5 y) := by kernel_rfl
def F_law04_alive (d : Nat) (x : law04_alive_X) : Option law04_alive_R :=
  (law04_alive_r0 (law04_alive_K d) ()).eval fun y0 =>
  (law04_alive_r1 (law04_alive_K d) ()).eval fun y1 =>
  (law04_alive_r2 (law04_alive_K d) y1).eval fun y2 =>
  (law04_alive_r3 (law04_alive_K d) y2).eval fun y3 =>
  (law04_alive_r4 (law04_alive_K d) y3).eval fun y4 =>
  (law04_alive_r5 (law04_alive_K d) y4).eval fun y5 =>
  some y5
theorem law04_alive_cok (d : Nat) : COK prog (law04_alive_sp (F_law04_alive d)) := by
  have hm : prog.follows .mixedOrders = true := mixed
  have hT := tys
  have hC0 : OrcOK prog (orc (law04_alive_tab (law04_alive_K d))) := orc_ok (by
    intro S hS
    simp only [law04_alive_tab, List.mem_cons, List.not_mem_nil, or_false] at hS
    rcases hS with rfl | rfl | rfl | rfl | rfl | rfl
    · exact meet_Last_cok d
    · exact meet_Count_cok d
    · exact law04_at_cok d
    · exact meet_All_cok d
    · exact law04_given_cok d
    · exact ref04_Same_cok d)
  have hC : OrcOK prog (orc (law04_alive_tab (law04_alive_K d))) := hC0
  refine cok_of (c := bodyOf f5) (fn := f5) hT (by kernel_rfl) (by kernel_rfl) (by decide) fun x r h w0 φ0 Q hend => ?_
  replace h : F_law04_alive d x = some r := h
  unfold F_law04_alive at h
  show Run prog w0 φ0 58 (bodyOf f5) ⟨[], []⟩ Q
  refine run_seq ?_
  refine run_reg hm hT hC (law04_alive_g0 (law04_alive_K d) ()) h ?_
  intro y0 h
  refine cn_then ?_
  refine run_seq ?_
  refine run_reg hm hT hC (law04_alive_g1 (law04_alive_K d) ()) h ?_
  intro y1 h
  refine cn_then ?_
  refine run_seq ?_
  refine run_reg hm hT hC (law04_alive_g2 (law04_alive_K d) y1) h ?_
  intro y2 h
  refine cn_then ?_
  refine run_seq ?_
  refine run_reg hm hT hC (law04_alive_g3 (law04_alive_K d) y2) h ?_
  intro y3 h
  refine cn_then ?_
  refine run_seq ?_
  refine run_reg hm hT hC (law04_alive_g4 (law04_alive_K d) y3) h ?_
  intro y4 h
  refine cn_then ?_
  refine run_seq ?_
  refine run_reg hm hT hC (law04_alive_g5 (law04_alive_K d) y4) h ?_
  intro y5 h
  refine cn_then ?_
  refine run_ret ?_
  cases h
  exact (hend _ (by kernel_rfl)).2
abbrev law04_MeetLast_ps : List Pk := [.row RLiiiE true, .row Rii true]
abbrev law04_MeetLast_X : Type := DLiiiE × Dii × Unit
abbrev law04_MeetLast_R : Type := Bool
def law04_MeetLast_enc (r : law04_MeetLast_R) : LV × List Ob := (.bool r, [])
def law04_MeetLast_sp (F : law04_MeetLast_X → Option law04_MeetLast_R) : Go.Tx.Spec := ⟨3, law04_MeetLast_ps, law04_MeetLast_R, F, law04_MeetLast_enc⟩
abbrev law04_MeetLast_C : Type := (law04_fit_X → Option law04_fit_R) × (law04_alive_X → Option law04_alive_R) × (meet_Last_X → Option meet_Last_R) × (ref01_Check_X → Option ref01_Check_R) × (meet_Count_X → Option meet_Count_R) × (law04_at_X → Option law04_at_R) × (meet_Next_X → Option meet_Next_R) × (ref01_Compare_X → Option ref01_Compare_R) × (field_Order_X → Option field_Order_R) × (ref03_SameIDs_X → Option ref03_SameIDs_R) × (field_Find_X → Option field_Find_R) × Unit
def law04_MeetLast_K (d : Nat) : law04_MeetLast_C := (F_law04_fit d, F_law04_alive d, F_meet_Last d, F_ref01_Check d, F_meet_Count d, F_law04_at d, F_meet_Next d, F_ref01_Compare d, F_field_Order d, F_ref03_SameIDs d, F_field_Find d, ())
def law04_MeetLast_tab (C : law04_MeetLast_C) : List Go.Tx.Spec := [law04_fit_sp C.1, law04_alive_sp C.2.1, meet_Last_sp C.2.2.1, ref01_Check_sp C.2.2.2.1, meet_Count_sp C.2.2.2.2.1, law04_at_sp C.2.2.2.2.2.1, meet_Next_sp C.2.2.2.2.2.2.1, ref01_Compare_sp C.2.2.2.2.2.2.2.1, field_Order_sp C.2.2.2.2.2.2.2.2.1, ref03_SameIDs_sp C.2.2.2.2.2.2.2.2.2.1, field_Find_sp C.2.2.2.2.2.2.2.2.2.2.1]
abbrev law04_MeetLast_Y0i : Type := List Diii × Int × Int
def law04_MeetLast_S0i (v : law04_MeetLast_Y0i) : St := ⟨[(0, .agg [.fz Riii v.1]), (1, .agg [.int .i64 v.2.1, .int .i64 v.2.2])], []⟩
abbrev law04_MeetLast_Y0 : Type := List Diii × Int × Int
def law04_MeetLast_S0 (v : law04_MeetLast_Y0) : St := ⟨[(2, .ptr 0 0), (3, .ptr 1 0)], [.cells [.fz Riii v.1], .cells [.int .i64 v.2.1, .int .i64 v.2.2]]⟩
def law04_MeetLast_r0 (C : law04_MeetLast_C) (v : law04_MeetLast_Y0i) : Dt law04_MeetLast_Y0 := (Dt.ret (v.1, v.2.1, v.2.2))
theorem law04_MeetLast_g0 (C : law04_MeetLast_C) (v : law04_MeetLast_Y0i) : treg tysT (orc (law04_MeetLast_tab C)) 152 (regO (bodyOf f3) 0) false [(2, (.box [.val Riii])), (3, .any)] (law04_MeetLast_S0i v) some = (law04_MeetLast_r0 C v).eval fun y => some (law04_MeetLast_S0 y) := by kernel_rfl
abbrev law04_MeetLast_Y1 : Type := Bool × List Diii × Int × Int
def law04_MeetLast_S1 (v : law04_MeetLast_Y1) : St := ⟨[(2, .ptr 0 0), (3, .ptr 1 0), (25, .bool v.1)], [.cells [.fz Riii v.2.1], .cells [.int .i64 v.2.2.1, .int .i64 v.2.2.2]]⟩
def law04_MeetLast_r1 (C : law04_MeetLast_C) (v : law04_MeetLast_Y0) : Dt law04_MeetLast_Y1 := (Dt.bnd (C.1 ((v.1, ()), (v.2.1, v.2.2, ()), (v.2.1, v.2.2, ()), ())) fun r1 => (Dt.ret ((!r1), v.1, v.2.1, v.2.2)))
theorem law04_MeetLast_g1 (C : law04_MeetLast_C) (v : law04_MeetLast_Y0) : treg tysT (orc (law04_MeetLast_tab C)) 152 (regO (bodyOf f3) 1) false [(2, (.box [.val Riii])), (3, .any), (25, .any)] (law04_MeetLast_S0 v) some = (law04_MeetLast_r1 C v).eval fun y => some (law04_MeetLast_S1 y) := by kernel_rfl
abbrev law04_MeetLast_Y2 : Type := Bool
def law04_MeetLast_S2 (v : law04_MeetLast_Y2) : St := ⟨[(4, .bool v)], []⟩
def law04_MeetLast_r2 (C : law04_MeetLast_C) (v : law04_MeetLast_Y1) : Dt law04_MeetLast_Y2 := (Dt.bnd (C.2.1 (())) fun r1 => (Dt.ret r1))
theorem law04_MeetLast_g2 (C : law04_MeetLast_C) (v : law04_MeetLast_Y1) : treg tysT (orc (law04_MeetLast_tab C)) 152 (regO (bodyOf f3) 2) false [(4, .any)] (law04_MeetLast_S1 v) some = (law04_MeetLast_r2 C v).eval fun y => some (law04_MeetLast_S2 y) := by kernel_rfl
abbrev law04_MeetLast_Y3 : Type := Int × List Diii × Int × Int × Int × Int
def law04_MeetLast_S3 (v : law04_MeetLast_Y3) : St := ⟨[(2, .ptr 0 0), (3, .ptr 1 0), (5, .ptr 2 0), (6, .int .i64 v.1)], [.cells [.fz Riii v.2.1], .cells [.int .i64 v.2.2.1, .int .i64 v.2.2.2.1], .cells [.int .i64 v.2.2.2.2.1, .int .i64 v.2.2.2.2.2]]⟩
def law04_MeetLast_r3 (C : law04_MeetLast_C) (v : law04_MeetLast_Y1) : Dt law04_MeetLast_Y3 := (Dt.bnd (C.2.2.1 ((v.2.1, ()), ())) fun r1 => (Dt.ret (r1.2.2, v.2.1, v.2.2.1, v.2.2.2, r1.1, r1.2.1)))
theorem law04_MeetLast_g3 (C : law04_MeetLast_C) (v : law04_MeetLast_Y1) : treg tysT (orc (law04_MeetLast_tab C)) 152 (regO (bodyOf f3) 3) false [(2, (.box [.val Riii])), (3, .any), (5, .any), (6, .any)] (law04_MeetLast_S1 v) some = (law04_MeetLast_r3 C v).eval fun y => some (law04_MeetLast_S3 y) := by kernel_rfl
abbrev law04_MeetLast_Y4 : Type := Int × Bool × List Diii × Int × Int × Int × Int
def law04_MeetLast_S4 (v : law04_MeetLast_Y4) : St := ⟨[(2, .ptr 0 0), (3, .ptr 1 0), (5, .ptr 2 0), (6, .int .i64 v.1), (33, .bool v.2.1)], [.cells [.fz Riii v.2.2.1], .cells [.int .i64 v.2.2.2.1, .int .i64 v.2.2.2.2.1], .cells [.int .i64 v.2.2.2.2.2.1, .int .i64 v.2.2.2.2.2.2]]⟩
def law04_MeetLast_r4 (C : law04_MeetLast_C) (v : law04_MeetLast_Y3) : Dt law04_MeetLast_Y4 := (Dt.ret (v.1, (v.1 != (0:Int)), v.2.1, v.2.2.1, v.2.2.2.1, v.2.2.2.2.1, v.2.2.2.2.2))
theorem law04_MeetLast_g4 (C : law04_MeetLast_C) (v : law04_MeetLast_Y3) : treg tysT (orc (law04_MeetLast_tab C)) 152 (regO (bodyOf f3) 4) false [(2, (.box [.val Riii])), (3, .any), (5, .any), (6, .any), (33, .any)] (law04_MeetLast_S3 v) some = (law04_MeetLast_r4 C v).eval fun y => some (law04_MeetLast_S4 y) := by kernel_rfl
abbrev law04_MeetLast_Y5 : Type := Int × Int × List Diii
def law04_MeetLast_S5 (v : law04_MeetLast_Y5) : St := ⟨[(2, .ptr 0 0), (6, .int .i64 v.1), (7, .int .i64 v.2.1)], [.cells [.fz Riii v.2.2]]⟩
def law04_MeetLast_r5 (C : law04_MeetLast_C) (v : law04_MeetLast_Y4) : Dt law04_MeetLast_Y5 := (Dt.ret (v.1, (1:Int), v.2.2.1))
theorem law04_MeetLast_g5 (C : law04_MeetLast_C) (v : law04_MeetLast_Y4) : treg tysT (orc (law04_MeetLast_tab C)) 152 (regO (bodyOf f3) 5) false [(2, (.box [.val Riii])), (6, .any), (7, .any)] (law04_MeetLast_S4 v) some = (law04_MeetLast_r5 C v).eval fun y => some (law04_MeetLast_S5 y) := by kernel_rfl
abbrev law04_MeetLast_Y6 : Type := Int × Int × Bool × List Diii
def law04_MeetLast_S6 (v : law04_MeetLast_Y6) : St := ⟨[(2, .ptr 0 0), (6, .int .i64 v.1), (7, .int .i64 v.2.1), (38, .bool v.2.2.1)], [.cells [.fz Riii v.2.2.2]]⟩
def law04_MeetLast_r6 (C : law04_MeetLast_C) (v : law04_MeetLast_Y5) : Dt law04_MeetLast_Y6 := (Dt.ret (v.1, v.2.1, (decide (v.2.1 < (List.length v.2.2 : Int))), v.2.2))
theorem law04_MeetLast_g6 (C : law04_MeetLast_C) (v : law04_MeetLast_Y5) : treg tysT (orc (law04_MeetLast_tab C)) 152 (regO (bodyOf f3) 6) false [(2, (.box [.val Riii])), (6, .any), (7, .any), (38, .any)] (law04_MeetLast_S5 v) some = (law04_MeetLast_r6 C v).eval fun y => some (law04_MeetLast_S6 y) := by kernel_rfl
abbrev law04_MeetLast_Y8 : Type := Int × Int × Bool × List Diii
def law04_MeetLast_S8 (v : law04_MeetLast_Y8) : St := ⟨[(2, .ptr 0 0), (6, .int .i64 v.1), (7, .int .i64 v.2.1), (52, .bool v.2.2.1)], [.cells [.fz Riii v.2.2.2]]⟩
def law04_MeetLast_r8 (C : law04_MeetLast_C) (v : law04_MeetLast_Y6) : Dt law04_MeetLast_Y8 := (Dt.ite (inB v.2.1 (List.length v.2.2.2)) (Dt.ite (inB (0:Int) (List.length v.2.2.2)) (Dt.ret (v.1, v.2.1, ((elt ziii v.2.2.2 (v.2.1).toNat).2.2.1 != (elt ziii v.2.2.2 ((0:Int)).toNat).2.2.1), v.2.2.2)) Dt.fail) Dt.fail)
theorem law04_MeetLast_g8 (C : law04_MeetLast_C) (v : law04_MeetLast_Y6) : treg tysT (orc (law04_MeetLast_tab C)) 152 (regO (bodyOf f3) 8) true [(2, (.box [.val Riii])), (6, .any), (7, .any), (52, .any)] (law04_MeetLast_S6 v) some = (law04_MeetLast_r8 C v).eval fun y => some (law04_MeetLast_S8 y) := by kernel_rfl
def law04_MeetLast_r9 (C : law04_MeetLast_C) (v : law04_MeetLast_Y8) : Dt law04_MeetLast_Y2 := (Dt.ret false)
theorem law04_MeetLast_g9 (C : law04_MeetLast_C) (v : law04_MeetLast_Y8) : treg tysT (orc (law04_MeetLast_tab C)) 152 (regO (bodyOf f3) 9) false [(4, .any)] (law04_MeetLast_S8 v) some = (law04_MeetLast_r9 C v).eval fun y => some (law04_MeetLast_S2 y) := by kernel_rfl
def law04_MeetLast_r7 (C : law04_MeetLast_C) (v : law04_MeetLast_Y8) : Dt law04_MeetLast_Y5 := (Dt.ret (v.1, (IntKind.wrap .i64 (v.2.1 + (1:Int))), v.2.2.2))
theorem law04_MeetLast_g7 (C : law04_MeetLast_C) (v : law04_MeetLast_Y8) : treg tysT (orc (law04_MeetLast_tab C)) 152 (regO (bodyOf f3) 7) false [(2, (.box [.val Riii])), (6, .any), (7, .any)] (law04_MeetLast_S8 v) some = (law04_MeetLast_r7 C v).eval fun y => some (law04_MeetLast_S5 y) := by kernel_rfl
def law04_MeetLast_r10 (C : law04_MeetLast_C) (v : law04_MeetLast_Y6) : Dt law04_MeetLast_Y2 := (Dt.ite (v.1 == (6:Int)) (Dt.bnd (C.2.1 (())) fun r1 => (Dt.ret r1)) (Dt.ret false))
theorem law04_MeetLast_g10 (C : law04_MeetLast_C) (v : law04_MeetLast_Y6) : treg tysT (orc (law04_MeetLast_tab C)) 152 (regO (bodyOf f3) 10) false [(4, .any)] (law04_MeetLast_S6 v) some = (law04_MeetLast_r10 C v).eval fun y => some (law04_MeetLast_S2 y) := by kernel_rfl
def law04_MeetLast_L1 (d : Nat) (self1 : (Int × Int × List Diii) → Option law04_MeetLast_R) (x1 : Int × Int × List Diii) : Option law04_MeetLast_R :=
  (law04_MeetLast_r6 (law04_MeetLast_K d) x1).eval fun y6 =>
  bif y6.2.2.1 then ((law04_MeetLast_r8 (law04_MeetLast_K d) y6).eval fun y8 =>
  bif y8.2.2.1 then ((law04_MeetLast_r9 (law04_MeetLast_K d) y8).eval fun y9 =>
  some y9) else ((law04_MeetLast_r7 (law04_MeetLast_K d) y8).eval fun y7 =>
  self1 y7)) else ((law04_MeetLast_r10 (law04_MeetLast_K d) y6).eval fun y10 =>
  some y10)
abbrev law04_MeetLast_Y11 : Type := Bool × List Diii × Int × Int × Int × Int
def law04_MeetLast_S11 (v : law04_MeetLast_Y11) : St := ⟨[(2, .ptr 0 0), (3, .ptr 1 0), (5, .ptr 2 0), (60, .bool v.1)], [.cells [.fz Riii v.2.1], .cells [.int .i64 v.2.2.1, .int .i64 v.2.2.2.1], .cells [.int .i64 v.2.2.2.2.1, .int .i64 v.2.2.2.2.2]]⟩
def law04_MeetLast_r11 (C : law04_MeetLast_C) (v : law04_MeetLast_Y4) : Dt law04_MeetLast_Y11 := (Dt.bnd (C.2.2.2.1 ((v.2.2.2.2.2.1, v.2.2.2.2.2.2, ()), ())) fun r1 => (Dt.ret ((r1 != (0:Int)), v.2.2.1, v.2.2.2.1, v.2.2.2.2.1, v.2.2.2.2.2.1, v.2.2.2.2.2.2)))
theorem law04_MeetLast_g11 (C : law04_MeetLast_C) (v : law04_MeetLast_Y4) : treg tysT (orc (law04_MeetLast_tab C)) 152 (regO (bodyOf f3) 11) false [(2, (.box [.val Riii])), (3, .any), (5, .any), (60, .any)] (law04_MeetLast_S4 v) some = (law04_MeetLast_r11 C v).eval fun y => some (law04_MeetLast_S11 y) := by kernel_rfl
def law04_MeetLast_r12 (C : law04_MeetLast_C) (v : law04_MeetLast_Y11) : Dt law04_MeetLast_Y2 := (Dt.ret false)
theorem law04_MeetLast_g12 (C : law04_MeetLast_C) (v : law04_MeetLast_Y11) : treg tysT (orc (law04_MeetLast_tab C)) 152 (regO (bodyOf f3) 12) false [(4, .any)] (law04_MeetLast_S11 v) some = (law04_MeetLast_r12 C v).eval fun y => some (law04_MeetLast_S2 y) := by kernel_rfl
abbrev law04_MeetLast_Y13 : Type := Int × Int × List Diii × Int × Int × Int × Int
def law04_MeetLast_S13 (v : law04_MeetLast_Y13) : St := ⟨[(2, .ptr 0 0), (3, .ptr 1 0), (5, .ptr 2 0), (8, .int .i64 v.1), (9, .int .i64 v.2.1)], [.cells [.fz Riii v.2.2.1], .cells [.int .i64 v.2.2.2.1, .int .i64 v.2.2.2.2.1], .cells [.int .i64 v.2.2.2.2.2.1, .int .i64 v.2.2.2.2.2.2]]⟩
def law04_MeetLast_r13 (C : law04_MeetLast_C) (v : law04_MeetLast_Y11) : Dt law04_MeetLast_Y13 := (Dt.bnd (C.2.2.2.2.2.1 (((9223372036854775807:Int), ()), ())) fun r1 => (Dt.bnd (C.2.2.2.2.1 ((v.2.1, ()), (v.2.2.2.2.1, v.2.2.2.2.2, ()), (r1.1, r1.2, ()), ())) fun r2 => (Dt.ret (r2.1, r2.2, v.2.1, v.2.2.1, v.2.2.2.1, v.2.2.2.2.1, v.2.2.2.2.2))))
theorem law04_MeetLast_g13 (C : law04_MeetLast_C) (v : law04_MeetLast_Y11) : treg tysT (orc (law04_MeetLast_tab C)) 152 (regO (bodyOf f3) 13) true [(2, (.box [.val Riii])), (3, .any), (5, .any), (8, .any), (9, .any)] (law04_MeetLast_S11 v) some = (law04_MeetLast_r13 C v).eval fun y => some (law04_MeetLast_S13 y) := by kernel_rfl
abbrev law04_MeetLast_Y14 : Type := Int × Int × Int × List Diii × Int × Int × Int × Int
def law04_MeetLast_S14 (v : law04_MeetLast_Y14) : St := ⟨[(2, .ptr 0 0), (3, .ptr 1 0), (5, .ptr 2 0), (8, .int .i64 v.1), (9, .int .i64 v.2.1), (11, .int .i64 v.2.2.1)], [.cells [.fz Riii v.2.2.2.1], .cells [.int .i64 v.2.2.2.2.1, .int .i64 v.2.2.2.2.2.1], .cells [.int .i64 v.2.2.2.2.2.2.1, .int .i64 v.2.2.2.2.2.2.2]]⟩
def law04_MeetLast_r14 (C : law04_MeetLast_C) (v : law04_MeetLast_Y13) : Dt law04_MeetLast_Y14 := (Dt.bnd (C.2.2.2.2.2.2.1 ((v.2.2.1, ()), (v.2.2.2.2.2.1, v.2.2.2.2.2.2, ()), ())) fun r1 => (Dt.ret (v.1, v.2.1, r1.2.2.2.2, v.2.2.1, v.2.2.2.1, v.2.2.2.2.1, v.2.2.2.2.2.1, v.2.2.2.2.2.2)))
theorem law04_MeetLast_g14 (C : law04_MeetLast_C) (v : law04_MeetLast_Y13) : treg tysT (orc (law04_MeetLast_tab C)) 152 (regO (bodyOf f3) 14) false [(2, (.box [.val Riii])), (3, .any), (5, .any), (8, .any), (9, .any), (11, .any)] (law04_MeetLast_S13 v) some = (law04_MeetLast_r14 C v).eval fun y => some (law04_MeetLast_S14 y) := by kernel_rfl
abbrev law04_MeetLast_Y15 : Type := Bool × List Diii × Int × Int × Int × Int
def law04_MeetLast_S15 (v : law04_MeetLast_Y15) : St := ⟨[(2, .ptr 0 0), (3, .ptr 1 0), (5, .ptr 2 0), (83, .bool v.1)], [.cells [.fz Riii v.2.1], .cells [.int .i64 v.2.2.1, .int .i64 v.2.2.2.1], .cells [.int .i64 v.2.2.2.2.1, .int .i64 v.2.2.2.2.2]]⟩
def law04_MeetLast_r15 (C : law04_MeetLast_C) (v : law04_MeetLast_Y14) : Dt law04_MeetLast_Y15 := (Dt.ite (v.2.1 != (0:Int)) (Dt.ret (true, v.2.2.2.1, v.2.2.2.2.1, v.2.2.2.2.2.1, v.2.2.2.2.2.2.1, v.2.2.2.2.2.2.2)) (Dt.ite (v.1 != (0:Int)) (Dt.ret (true, v.2.2.2.1, v.2.2.2.2.1, v.2.2.2.2.2.1, v.2.2.2.2.2.2.1, v.2.2.2.2.2.2.2)) (Dt.ret ((v.2.2.1 != (6:Int)), v.2.2.2.1, v.2.2.2.2.1, v.2.2.2.2.2.1, v.2.2.2.2.2.2.1, v.2.2.2.2.2.2.2))))
theorem law04_MeetLast_g15 (C : law04_MeetLast_C) (v : law04_MeetLast_Y14) : treg tysT (orc (law04_MeetLast_tab C)) 152 (regO (bodyOf f3) 15) false [(2, (.box [.val Riii])), (3, .any), (5, .any), (83, .any)] (law04_MeetLast_S14 v) some = (law04_MeetLast_r15 C v).eval fun y => some (law04_MeetLast_S15 y) := by kernel_rfl
def law04_MeetLast_r16 (C : law04_MeetLast_C) (v : law04_MeetLast_Y15) : Dt law04_MeetLast_Y2 := (Dt.ret false)
theorem law04_MeetLast_g16 (C : law04_MeetLast_C) (v : law04_MeetLast_Y15) : treg tysT (orc (law04_MeetLast_tab C)) 152 (regO (bodyOf f3) 16) false [(4, .any)] (law04_MeetLast_S15 v) some = (law04_MeetLast_r16 C v).eval fun y => some (law04_MeetLast_S2 y) := by kernel_rfl
abbrev law04_MeetLast_Y17 : Type := Bool × List Diii × Int × Int × Int × Int
def law04_MeetLast_S17 (v : law04_MeetLast_Y17) : St := ⟨[(2, .ptr 0 0), (3, .ptr 1 0), (5, .ptr 2 0), (87, .bool v.1)], [.cells [.fz Riii v.2.1], .cells [.int .i64 v.2.2.1, .int .i64 v.2.2.2.1], .cells [.int .i64 v.2.2.2.2.1, .int .i64 v.2.2.2.2.2]]⟩
def law04_MeetLast_r17 (C : law04_MeetLast_C) (v : law04_MeetLast_Y15) : Dt law04_MeetLast_Y17 := (Dt.bnd (C.2.2.2.2.2.2.2.1 ((v.2.2.1, v.2.2.2.1, ()), (v.2.2.2.2.1, v.2.2.2.2.2, ()), ())) fun r1 => (Dt.ret ((decide (r1 < (0:Int))), v.2.1, v.2.2.1, v.2.2.2.1, v.2.2.2.2.1, v.2.2.2.2.2)))
theorem law04_MeetLast_g17 (C : law04_MeetLast_C) (v : law04_MeetLast_Y15) : treg tysT (orc (law04_MeetLast_tab C)) 152 (regO (bodyOf f3) 17) false [(2, (.box [.val Riii])), (3, .any), (5, .any), (87, .any)] (law04_MeetLast_S15 v) some = (law04_MeetLast_r17 C v).eval fun y => some (law04_MeetLast_S17 y) := by kernel_rfl
def law04_MeetLast_r18 (C : law04_MeetLast_C) (v : law04_MeetLast_Y17) : Dt law04_MeetLast_Y2 := (Dt.bnd (C.2.1 (())) fun r1 => (Dt.ret r1))
theorem law04_MeetLast_g18 (C : law04_MeetLast_C) (v : law04_MeetLast_Y17) : treg tysT (orc (law04_MeetLast_tab C)) 152 (regO (bodyOf f3) 18) false [(4, .any)] (law04_MeetLast_S17 v) some = (law04_MeetLast_r18 C v).eval fun y => some (law04_MeetLast_S2 y) := by kernel_rfl
abbrev law04_MeetLast_Y19 : Type := Int × List Diii × Int × Int × List Di
def law04_MeetLast_S19 (v : law04_MeetLast_Y19) : St := ⟨[(2, .ptr 0 0), (3, .ptr 1 0), (12, .rs 2), (13, .int .i64 v.1)], [.cells [.fz Riii v.2.1], .cells [.int .i64 v.2.2.1, .int .i64 v.2.2.2.1], .rows Ri v.2.2.2.2]⟩
def law04_MeetLast_r19 (C : law04_MeetLast_C) (v : law04_MeetLast_Y17) : Dt law04_MeetLast_Y19 := (Dt.bnd (C.2.2.2.2.2.2.2.2.1 ((v.2.1, ()), (v.2.2.2.2.1, v.2.2.2.2.2, ()), ())) fun r1 => (Dt.ret (r1.2, v.2.1, v.2.2.1, v.2.2.2.1, r1.1)))
theorem law04_MeetLast_g19 (C : law04_MeetLast_C) (v : law04_MeetLast_Y17) : treg tysT (orc (law04_MeetLast_tab C)) 152 (regO (bodyOf f3) 19) false [(2, (.box [.val Riii])), (3, .any), (12, (.own Ri)), (13, .any)] (law04_MeetLast_S17 v) some = (law04_MeetLast_r19 C v).eval fun y => some (law04_MeetLast_S19 y) := by kernel_rfl
abbrev law04_MeetLast_Y20 : Type := Int × Int × List Diii × List Di × List Di
def law04_MeetLast_S20 (v : law04_MeetLast_Y20) : St := ⟨[(2, .ptr 0 0), (12, .rs 1), (13, .int .i64 v.1), (14, .rs 2), (15, .int .i64 v.2.1)], [.cells [.fz Riii v.2.2.1], .rows Ri v.2.2.2.1, .rows Ri v.2.2.2.2]⟩
def law04_MeetLast_r20 (C : law04_MeetLast_C) (v : law04_MeetLast_Y19) : Dt law04_MeetLast_Y20 := (Dt.bnd (C.2.2.2.2.2.2.2.2.1 ((v.2.1, ()), (v.2.2.1, v.2.2.2.1, ()), ())) fun r1 => (Dt.ret (v.1, r1.2, v.2.1, v.2.2.2.2, r1.1)))
theorem law04_MeetLast_g20 (C : law04_MeetLast_C) (v : law04_MeetLast_Y19) : treg tysT (orc (law04_MeetLast_tab C)) 152 (regO (bodyOf f3) 20) false [(2, (.box [.val Riii])), (12, (.own Ri)), (13, .any), (14, (.own Ri)), (15, .any)] (law04_MeetLast_S19 v) some = (law04_MeetLast_r20 C v).eval fun y => some (law04_MeetLast_S20 y) := by kernel_rfl
abbrev law04_MeetLast_Y21 : Type := Bool × List Diii × List Di
def law04_MeetLast_S21 (v : law04_MeetLast_Y21) : St := ⟨[(2, .ptr 0 0), (14, .rs 1), (112, .bool v.1)], [.cells [.fz Riii v.2.1], .rows Ri v.2.2]⟩
def law04_MeetLast_r21 (C : law04_MeetLast_C) (v : law04_MeetLast_Y20) : Dt law04_MeetLast_Y21 := (Dt.ite (v.1 != (0:Int)) (Dt.ret (true, v.2.2.1, v.2.2.2.2)) (Dt.ite (v.2.1 != (0:Int)) (Dt.ret (true, v.2.2.1, v.2.2.2.2)) (Dt.bnd (C.2.2.2.2.2.2.2.2.2.1 ((v.2.2.2.1, ()), (v.2.2.2.2, ()), ())) fun r1 => (Dt.ret ((!r1), v.2.2.1, v.2.2.2.2)))))
theorem law04_MeetLast_g21 (C : law04_MeetLast_C) (v : law04_MeetLast_Y20) : treg tysT (orc (law04_MeetLast_tab C)) 152 (regO (bodyOf f3) 21) false [(2, (.box [.val Riii])), (14, (.own Ri)), (112, .any)] (law04_MeetLast_S20 v) some = (law04_MeetLast_r21 C v).eval fun y => some (law04_MeetLast_S21 y) := by kernel_rfl
def law04_MeetLast_r22 (C : law04_MeetLast_C) (v : law04_MeetLast_Y21) : Dt law04_MeetLast_Y2 := (Dt.ret false)
theorem law04_MeetLast_g22 (C : law04_MeetLast_C) (v : law04_MeetLast_Y21) : treg tysT (orc (law04_MeetLast_tab C)) 152 (regO (bodyOf f3) 22) false [(4, .any)] (law04_MeetLast_S21 v) some = (law04_MeetLast_r22 C v).eval fun y => some (law04_MeetLast_S2 y) := by kernel_rfl
abbrev law04_MeetLast_Y23 : Type := Int × List Diii × List Di
def law04_MeetLast_S23 (v : law04_MeetLast_Y23) : St := ⟨[(2, .ptr 0 0), (14, .rs 1), (16, .int .i64 v.1)], [.cells [.fz Riii v.2.1], .rows Ri v.2.2]⟩
def law04_MeetLast_r23 (C : law04_MeetLast_C) (v : law04_MeetLast_Y21) : Dt law04_MeetLast_Y23 := (Dt.ret ((1:Int), v.2.1, v.2.2))
theorem law04_MeetLast_g23 (C : law04_MeetLast_C) (v : law04_MeetLast_Y21) : treg tysT (orc (law04_MeetLast_tab C)) 152 (regO (bodyOf f3) 23) false [(2, (.box [.val Riii])), (14, (.own Ri)), (16, .any)] (law04_MeetLast_S21 v) some = (law04_MeetLast_r23 C v).eval fun y => some (law04_MeetLast_S23 y) := by kernel_rfl
abbrev law04_MeetLast_Y24 : Type := Int × Bool × List Diii × List Di
def law04_MeetLast_S24 (v : law04_MeetLast_Y24) : St := ⟨[(2, .ptr 0 0), (14, .rs 1), (16, .int .i64 v.1), (116, .bool v.2.1)], [.cells [.fz Riii v.2.2.1], .rows Ri v.2.2.2]⟩
def law04_MeetLast_r24 (C : law04_MeetLast_C) (v : law04_MeetLast_Y23) : Dt law04_MeetLast_Y24 := (Dt.ret (v.1, (decide (v.1 < (List.length v.2.2 : Int))), v.2.1, v.2.2))
theorem law04_MeetLast_g24 (C : law04_MeetLast_C) (v : law04_MeetLast_Y23) : treg tysT (orc (law04_MeetLast_tab C)) 152 (regO (bodyOf f3) 24) false [(2, (.box [.val Riii])), (14, (.own Ri)), (16, .any), (116, .any)] (law04_MeetLast_S23 v) some = (law04_MeetLast_r24 C v).eval fun y => some (law04_MeetLast_S24 y) := by kernel_rfl
abbrev law04_MeetLast_Y26 : Type := Int × Int × List Diii × List Di × Int × Int × Int
def law04_MeetLast_S26 (v : law04_MeetLast_Y26) : St := ⟨[(2, .ptr 0 0), (14, .rs 1), (16, .int .i64 v.1), (17, .ptr 2 0), (18, .int .i64 v.2.1)], [.cells [.fz Riii v.2.2.1], .rows Ri v.2.2.2.1, .cells [.int .i64 v.2.2.2.2.1, .int .i64 v.2.2.2.2.2.1, .int .i64 v.2.2.2.2.2.2]]⟩
def law04_MeetLast_r26 (C : law04_MeetLast_C) (v : law04_MeetLast_Y24) : Dt law04_MeetLast_Y26 := (Dt.ite (inB (IntKind.wrap .i64 (v.1 - (1:Int))) (List.length v.2.2.2)) (Dt.bnd (C.2.2.2.2.2.2.2.2.2.2.1 ((v.2.2.1, ()), ((elt zi v.2.2.2 ((IntKind.wrap .i64 (v.1 - (1:Int)))).toNat).1, ()), ())) fun r1 => (Dt.ret (v.1, r1.2.2.2, v.2.2.1, v.2.2.2, r1.1, r1.2.1, r1.2.2.1))) Dt.fail)
theorem law04_MeetLast_g26 (C : law04_MeetLast_C) (v : law04_MeetLast_Y24) : treg tysT (orc (law04_MeetLast_tab C)) 152 (regO (bodyOf f3) 26) true [(2, (.box [.val Riii])), (14, (.own Ri)), (16, .any), (17, .any), (18, .any)] (law04_MeetLast_S24 v) some = (law04_MeetLast_r26 C v).eval fun y => some (law04_MeetLast_S26 y) := by kernel_rfl
abbrev law04_MeetLast_Y27 : Type := Int × Int × Int × List Diii × List Di × Int × Int × Int × Int × Int × Int
def law04_MeetLast_S27 (v : law04_MeetLast_Y27) : St := ⟨[(2, .ptr 0 0), (14, .rs 1), (16, .int .i64 v.1), (17, .ptr 2 0), (18, .int .i64 v.2.1), (19, .ptr 3 0), (20, .int .i64 v.2.2.1)], [.cells [.fz Riii v.2.2.2.1], .rows Ri v.2.2.2.2.1, .cells [.int .i64 v.2.2.2.2.2.1, .int .i64 v.2.2.2.2.2.2.1, .int .i64 v.2.2.2.2.2.2.2.1], .cells [.int .i64 v.2.2.2.2.2.2.2.2.1, .int .i64 v.2.2.2.2.2.2.2.2.2.1, .int .i64 v.2.2.2.2.2.2.2.2.2.2]]⟩
def law04_MeetLast_r27 (C : law04_MeetLast_C) (v : law04_MeetLast_Y26) : Dt law04_MeetLast_Y27 := (Dt.ite (inB v.1 (List.length v.2.2.2.1)) (Dt.bnd (C.2.2.2.2.2.2.2.2.2.2.1 ((v.2.2.1, ()), ((elt zi v.2.2.2.1 (v.1).toNat).1, ()), ())) fun r1 => (Dt.ret (v.1, v.2.1, r1.2.2.2, v.2.2.1, v.2.2.2.1, v.2.2.2.2.1, v.2.2.2.2.2.1, v.2.2.2.2.2.2, r1.1, r1.2.1, r1.2.2.1))) Dt.fail)
theorem law04_MeetLast_g27 (C : law04_MeetLast_C) (v : law04_MeetLast_Y26) : treg tysT (orc (law04_MeetLast_tab C)) 152 (regO (bodyOf f3) 27) true [(2, (.box [.val Riii])), (14, (.own Ri)), (16, .any), (17, .any), (18, .any), (19, .any), (20, .any)] (law04_MeetLast_S26 v) some = (law04_MeetLast_r27 C v).eval fun y => some (law04_MeetLast_S27 y) := by kernel_rfl
abbrev law04_MeetLast_Y28 : Type := Int × Bool × List Diii × List Di
def law04_MeetLast_S28 (v : law04_MeetLast_Y28) : St := ⟨[(2, .ptr 0 0), (14, .rs 1), (16, .int .i64 v.1), (150, .bool v.2.1)], [.cells [.fz Riii v.2.2.1], .rows Ri v.2.2.2]⟩
def law04_MeetLast_r28 (C : law04_MeetLast_C) (v : law04_MeetLast_Y27) : Dt law04_MeetLast_Y28 := (Dt.ite (v.2.1 != (0:Int)) (Dt.ret (v.1, true, v.2.2.2.1, v.2.2.2.2.1)) (Dt.ite (v.2.2.1 != (0:Int)) (Dt.ret (v.1, true, v.2.2.2.1, v.2.2.2.2.1)) (Dt.ret (v.1, (decide (v.2.2.2.2.2.2.2.1 < v.2.2.2.2.2.2.2.2.2.2)), v.2.2.2.1, v.2.2.2.2.1))))
theorem law04_MeetLast_g28 (C : law04_MeetLast_C) (v : law04_MeetLast_Y27) : treg tysT (orc (law04_MeetLast_tab C)) 152 (regO (bodyOf f3) 28) false [(2, (.box [.val Riii])), (14, (.own Ri)), (16, .any), (150, .any)] (law04_MeetLast_S27 v) some = (law04_MeetLast_r28 C v).eval fun y => some (law04_MeetLast_S28 y) := by kernel_rfl
def law04_MeetLast_r29 (C : law04_MeetLast_C) (v : law04_MeetLast_Y28) : Dt law04_MeetLast_Y2 := (Dt.ret false)
theorem law04_MeetLast_g29 (C : law04_MeetLast_C) (v : law04_MeetLast_Y28) : treg tysT (orc (law04_MeetLast_tab C)) 152 (regO (bodyOf f3) 29) false [(4, .any)] (law04_MeetLast_S28 v) some = (law04_MeetLast_r29 C v).eval fun y => some (law04_MeetLast_S2 y) := by kernel_rfl
def law04_MeetLast_r25 (C : law04_MeetLast_C) (v : law04_MeetLast_Y28) : Dt law04_MeetLast_Y23 := (Dt.ret ((IntKind.wrap .i64 (v.1 + (1:Int))), v.2.2.1, v.2.2.2))
theorem law04_MeetLast_g25 (C : law04_MeetLast_C) (v : law04_MeetLast_Y28) : treg tysT (orc (law04_MeetLast_tab C)) 152 (regO (bodyOf f3) 25) false [(2, (.box [.val Riii])), (14, (.own Ri)), (16, .any)] (law04_MeetLast_S28 v) some = (law04_MeetLast_r25 C v).eval fun y => some (law04_MeetLast_S23 y) := by kernel_rfl
def law04_MeetLast_r30 (C : law04_MeetLast_C) (v : law04_MeetLast_Y24) : Dt law04_MeetLast_Y2 := (Dt.bnd (C.2.1 (())) fun r1 => (Dt.ret r1))
theorem law04_MeetLast_g30 (C : law04_MeetLast_C) (v : law04_MeetLast_Y24) : treg tysT (orc (law04_MeetLast_tab C)) 152 (regO (bodyOf f3) 30) false [(4, .any)] (law04_MeetLast_S24 v) some = (law04_MeetLast_r30 C v).eval fun y => some (law04_MeetLast_S2 y) := by kernel_rfl
def law04_MeetLast_L2 (d : Nat) (self2 : (Int × List Diii × List Di) → Option law04_MeetLast_R) (x2 : Int × List Diii × List Di) : Option law04_MeetLast_R :=
  (law04_MeetLast_r24 (law04_MeetLast_K d) x2).eval fun y24 =>
  bif y24.2.1 then ((law04_MeetLast_r26 (law04_MeetLast_K d) y24).eval fun y26 =>
  (law04_MeetLast_r27 (law04_MeetLast_K d) y26).eval fun y27 =>
  (law04_MeetLast_r28 (law04_MeetLast_K d) y27).eval fun y28 =>
  bif y28.2.1 then ((law04_MeetLast_r29 (law04_MeetLast_K d) y28).eval fun y29 =>
  some y29) else ((law04_MeetLast_r25 (law04_MeetLast_K d) y28).eval fun y25 =>
  self2 y25)) else ((law04_MeetLast_r30 (law04_MeetLast_K d) y24).eval fun y30 =>
  some y30)
def F_law04_MeetLast (d : Nat) (x : law04_MeetLast_X) : Option law04_MeetLast_R :=
  (law04_MeetLast_r0 (law04_MeetLast_K d) (x.1.1, x.2.1.1, x.2.1.2.1)).eval fun y0 =>
  (law04_MeetLast_r1 (law04_MeetLast_K d) y0).eval fun y1 =>
  bif y1.1 then ((law04_MeetLast_r2 (law04_MeetLast_K d) y1).eval fun y2 =>
  some y2) else ((law04_MeetLast_r3 (law04_MeetLast_K d) y1).eval fun y3 =>
  (law04_MeetLast_r4 (law04_MeetLast_K d) y3).eval fun y4 =>
  bif y4.2.1 then ((law04_MeetLast_r5 (law04_MeetLast_K d) y4).eval fun y5 =>
  iter (law04_MeetLast_L1 d ) d y5) else ((law04_MeetLast_r11 (law04_MeetLast_K d) y4).eval fun y11 =>
  bif y11.1 then ((law04_MeetLast_r12 (law04_MeetLast_K d) y11).eval fun y12 =>
  some y12) else ((law04_MeetLast_r13 (law04_MeetLast_K d) y11).eval fun y13 =>
  (law04_MeetLast_r14 (law04_MeetLast_K d) y13).eval fun y14 =>
  (law04_MeetLast_r15 (law04_MeetLast_K d) y14).eval fun y15 =>
  bif y15.1 then ((law04_MeetLast_r16 (law04_MeetLast_K d) y15).eval fun y16 =>
  some y16) else ((law04_MeetLast_r17 (law04_MeetLast_K d) y15).eval fun y17 =>
  bif y17.1 then ((law04_MeetLast_r18 (law04_MeetLast_K d) y17).eval fun y18 =>
  some y18) else ((law04_MeetLast_r19 (law04_MeetLast_K d) y17).eval fun y19 =>
  (law04_MeetLast_r20 (law04_MeetLast_K d) y19).eval fun y20 =>
  (law04_MeetLast_r21 (law04_MeetLast_K d) y20).eval fun y21 =>
  bif y21.1 then ((law04_MeetLast_r22 (law04_MeetLast_K d) y21).eval fun y22 =>
  some y22) else ((law04_MeetLast_r23 (law04_MeetLast_K d) y21).eval fun y23 =>
  iter (law04_MeetLast_L2 d ) d y23))))))
theorem law04_MeetLast_cok (d : Nat) : COK prog (law04_MeetLast_sp (F_law04_MeetLast d)) := by
  have hm : prog.follows .mixedOrders = true := mixed
  have hT := tys
  have hC0 : OrcOK prog (orc (law04_MeetLast_tab (law04_MeetLast_K d))) := orc_ok (by
    intro S hS
    simp only [law04_MeetLast_tab, List.mem_cons, List.not_mem_nil, or_false] at hS
    rcases hS with rfl | rfl | rfl | rfl | rfl | rfl | rfl | rfl | rfl | rfl | rfl
    · exact law04_fit_cok d
    · exact law04_alive_cok d
    · exact meet_Last_cok d
    · exact ref01_Check_cok d
    · exact meet_Count_cok d
    · exact law04_at_cok d
    · exact meet_Next_cok d
    · exact ref01_Compare_cok d
    · exact field_Order_cok d
    · exact ref03_SameIDs_cok d
    · exact field_Find_cok d)
  have hC : OrcOK prog (orc (law04_MeetLast_tab (law04_MeetLast_K d))) := hC0
  refine cok_of (c := bodyOf f3) (fn := f3) hT (by kernel_rfl) (by kernel_rfl) (by decide) fun x r h w0 φ0 Q hend => ?_
  replace h : F_law04_MeetLast d x = some r := h
  unfold F_law04_MeetLast at h
  show Run prog w0 φ0 152 (bodyOf f3) ⟨[(0, .agg [.fz Riii x.1.1]), (1, .agg [.int .i64 x.2.1.1, .int .i64 x.2.1.2.1])], []⟩ Q
  refine run_seq ?_
  refine run_reg hm hT hC (law04_MeetLast_g0 (law04_MeetLast_K d) (x.1.1, x.2.1.1, x.2.1.2.1)) h ?_
  intro y0 h
  refine cn_then ?_
  refine run_seq ?_
  refine run_seq ?_
  refine run_reg hm hT hC (law04_MeetLast_g1 (law04_MeetLast_K d) y0) h ?_
  intro y1 h
  refine cn_then ?_
  refine run_cond (v := y1.1) (by kernel_rfl) h ?_ ?_
  ·
    intro h
    refine run_seq ?_
    refine run_reg hm hT hC (law04_MeetLast_g2 (law04_MeetLast_K d) y1) h ?_
    intro y2 h
    refine cn_then ?_
    refine run_ret ?_
    refine cn_then_ret ?_
    cases h
    exact (hend _ (by kernel_rfl)).2
  ·
    intro h
    refine run_skip ?_
    refine cn_then ?_
    refine run_seq ?_
    refine run_reg hm hT hC (law04_MeetLast_g3 (law04_MeetLast_K d) y1) h ?_
    intro y3 h
    refine cn_then ?_
    refine run_seq ?_
    refine run_seq ?_
    refine run_reg hm hT hC (law04_MeetLast_g4 (law04_MeetLast_K d) y3) h ?_
    intro y4 h
    refine cn_then ?_
    refine run_cond (v := y4.2.1) (by kernel_rfl) h ?_ ?_
    ·
      intro h
      refine run_seq ?_
      refine run_seq ?_
      refine run_reg hm hT hC (law04_MeetLast_g5 (law04_MeetLast_K d) y4) h ?_
      intro y5 h
      refine cn_then ?_
      refine run_block ?_
      refine run_loop (G := iter (law04_MeetLast_L1 d )) (S := (fun x1 => ⟨[(2, .ptr 0 0), (6, .int .i64 x1.1), (7, .int .i64 x1.2.1)], [.cells [.fz Riii x1.2.2]]⟩ : Int × Int × List Diii → St)) (fun _ => rfl) ?_ d _ h
      intro n1 x1 h K1 hn1
      replace h : law04_MeetLast_L1 d  (iter (law04_MeetLast_L1 d ) n1) x1 = some r := h
      generalize iter (law04_MeetLast_L1 d ) n1 = self1 at h hn1
      unfold law04_MeetLast_L1 at h
      refine run_seq ?_
      refine run_seq ?_
      refine run_reg hm hT hC (law04_MeetLast_g6 (law04_MeetLast_K d) x1) h ?_
      intro y6 h
      refine cn_then ?_
      refine run_cond (v := y6.2.2.1) (by kernel_rfl) h ?_ ?_
      ·
        intro h
        refine run_skip ?_
        refine cn_then ?_
        refine run_seq ?_
        refine run_block ?_
        refine run_seq ?_
        refine run_reg hm hT hC (law04_MeetLast_g8 (law04_MeetLast_K d) y6) h ?_
        intro y8 h
        refine cn_then ?_
        refine run_cond (v := y8.2.2.1) (by kernel_rfl) h ?_ ?_
        ·
          intro h
          refine run_seq ?_
          refine run_reg hm hT hC (law04_MeetLast_g9 (law04_MeetLast_K d) y8) h ?_
          intro y9 h
          refine cn_then ?_
          refine run_ret ?_
          refine cn_blk_ret ?_
          refine cn_then_ret ?_
          refine cn_then_ret ?_
          refine cn_blk_ret ?_
          refine cn_then_ret ?_
          refine cn_then_ret ?_
          cases h
          exact (hend _ (by kernel_rfl)).2
        ·
          intro h
          refine run_skip ?_
          refine cn_blk ?_
          refine cn_then ?_
          refine run_reg hm hT hC (law04_MeetLast_g7 (law04_MeetLast_K d) y8) h ?_
          intro y7 h
          exact hn1 _ h
      ·
        intro h
        refine run_exit ?_
        refine cn_then_exit ?_
        refine cn_then_exit ?_
        refine cn_blk_eq ?_
        refine cn_then ?_
        refine run_seq ?_
        refine run_reg hm hT hC (law04_MeetLast_g10 (law04_MeetLast_K d) y6) h ?_
        intro y10 h
        refine cn_then ?_
        refine run_ret ?_
        refine cn_then_ret ?_
        cases h
        exact (hend _ (by kernel_rfl)).2
    ·
      intro h
      refine run_skip ?_
      refine cn_then ?_
      refine run_seq ?_
      refine run_seq ?_
      refine run_reg hm hT hC (law04_MeetLast_g11 (law04_MeetLast_K d) y4) h ?_
      intro y11 h
      refine cn_then ?_
      refine run_cond (v := y11.1) (by kernel_rfl) h ?_ ?_
      ·
        intro h
        refine run_seq ?_
        refine run_reg hm hT hC (law04_MeetLast_g12 (law04_MeetLast_K d) y11) h ?_
        intro y12 h
        refine cn_then ?_
        refine run_ret ?_
        refine cn_then_ret ?_
        cases h
        exact (hend _ (by kernel_rfl)).2
      ·
        intro h
        refine run_skip ?_
        refine cn_then ?_
        refine run_seq ?_
        refine run_reg hm hT hC (law04_MeetLast_g13 (law04_MeetLast_K d) y11) h ?_
        intro y13 h
        refine cn_then ?_
        refine run_seq ?_
        refine run_reg hm hT hC (law04_MeetLast_g14 (law04_MeetLast_K d) y13) h ?_
        intro y14 h
        refine cn_then ?_
        refine run_seq ?_
        refine run_seq ?_
        refine run_reg hm hT hC (law04_MeetLast_g15 (law04_MeetLast_K d) y14) h ?_
        intro y15 h
        refine cn_then ?_
        refine run_cond (v := y15.1) (by kernel_rfl) h ?_ ?_
        ·
          intro h
          refine run_seq ?_
          refine run_reg hm hT hC (law04_MeetLast_g16 (law04_MeetLast_K d) y15) h ?_
          intro y16 h
          refine cn_then ?_
          refine run_ret ?_
          refine cn_then_ret ?_
          cases h
          exact (hend _ (by kernel_rfl)).2
        ·
          intro h
          refine run_skip ?_
          refine cn_then ?_
          refine run_seq ?_
          refine run_seq ?_
          refine run_reg hm hT hC (law04_MeetLast_g17 (law04_MeetLast_K d) y15) h ?_
          intro y17 h
          refine cn_then ?_
          refine run_cond (v := y17.1) (by kernel_rfl) h ?_ ?_
          ·
            intro h
            refine run_seq ?_
            refine run_reg hm hT hC (law04_MeetLast_g18 (law04_MeetLast_K d) y17) h ?_
            intro y18 h
            refine cn_then ?_
            refine run_ret ?_
            refine cn_then_ret ?_
            cases h
            exact (hend _ (by kernel_rfl)).2
          ·
            intro h
            refine run_skip ?_
            refine cn_then ?_
            refine run_seq ?_
            refine run_reg hm hT hC (law04_MeetLast_g19 (law04_MeetLast_K d) y17) h ?_
            intro y19 h
            refine cn_then ?_
            refine run_seq ?_
            refine run_reg hm hT hC (law04_MeetLast_g20 (law04_MeetLast_K d) y19) h ?_
            intro y20 h
            refine cn_then ?_
            refine run_seq ?_
            refine run_seq ?_
            refine run_reg hm hT hC (law04_MeetLast_g21 (law04_MeetLast_K d) y20) h ?_
            intro y21 h
            refine cn_then ?_
            refine run_cond (v := y21.1) (by kernel_rfl) h ?_ ?_
            ·
              intro h
              refine run_seq ?_
              refine run_reg hm hT hC (law04_MeetLast_g22 (law04_MeetLast_K d) y21) h ?_
              intro y22 h
              refine cn_then ?_
              refine run_ret ?_
              refine cn_then_ret ?_
              cases h
              exact (hend _ (by kernel_rfl)).2
            ·
              intro h
              refine run_skip ?_
              refine cn_then ?_
              refine run_seq ?_
              refine run_seq ?_
              refine run_reg hm hT hC (law04_MeetLast_g23 (law04_MeetLast_K d) y21) h ?_
              intro y23 h
              refine cn_then ?_
              refine run_block ?_
              refine run_loop (G := iter (law04_MeetLast_L2 d )) (S := (fun x2 => ⟨[(2, .ptr 0 0), (14, .rs 1), (16, .int .i64 x2.1)], [.cells [.fz Riii x2.2.1], .rows Ri x2.2.2]⟩ : Int × List Diii × List Di → St)) (fun _ => rfl) ?_ d _ h
              intro n2 x2 h K2 hn2
              replace h : law04_MeetLast_L2 d  (iter (law04_MeetLast_L2 d ) n2) x2 = some r := h
              generalize iter (law04_MeetLast_L2 d ) n2 = self2 at h hn2
              unfold law04_MeetLast_L2 at h
              refine run_seq ?_
              refine run_seq ?_
              refine run_reg hm hT hC (law04_MeetLast_g24 (law04_MeetLast_K d) x2) h ?_
              intro y24 h
              refine cn_then ?_
              refine run_cond (v := y24.2.1) (by kernel_rfl) h ?_ ?_
              ·
                intro h
                refine run_skip ?_
                refine cn_then ?_
                refine run_seq ?_
                refine run_block ?_
                refine run_seq ?_
                refine run_reg hm hT hC (law04_MeetLast_g26 (law04_MeetLast_K d) y24) h ?_
                intro y26 h
                refine cn_then ?_
                refine run_seq ?_
                refine run_reg hm hT hC (law04_MeetLast_g27 (law04_MeetLast_K d) y26) h ?_
                intro y27 h
                refine cn_then ?_
                refine run_seq ?_
                refine run_reg hm hT hC (law04_MeetLast_g28 (law04_MeetLast_K d) y27) h ?_
                intro y28 h
                refine cn_then ?_
                refine run_cond (v := y28.2.1) (by kernel_rfl) h ?_ ?_
                ·
                  intro h
                  refine run_seq ?_
                  refine run_reg hm hT hC (law04_MeetLast_g29 (law04_MeetLast_K d) y28) h ?_
                  intro y29 h
                  refine cn_then ?_
                  refine run_ret ?_
                  refine cn_blk_ret ?_
                  refine cn_then_ret ?_
                  refine cn_then_ret ?_
                  refine cn_blk_ret ?_
                  refine cn_then_ret ?_
                  cases h
                  exact (hend _ (by kernel_rfl)).2
                ·
                  intro h
                  refine run_skip ?_
                  refine cn_blk ?_
                  refine cn_then ?_
                  refine run_reg hm hT hC (law04_MeetLast_g25 (law04_MeetLast_K d) y28) h ?_
                  intro y25 h
                  exact hn2 _ h
              ·
                intro h
                refine run_exit ?_
                refine cn_then_exit ?_
                refine cn_then_exit ?_
                refine cn_blk_eq ?_
                refine cn_then ?_
                refine run_seq ?_
                refine run_reg hm hT hC (law04_MeetLast_g30 (law04_MeetLast_K d) y24) h ?_
                intro y30 h
                refine cn_then ?_
                refine run_ret ?_
                cases h
                exact (hend _ (by kernel_rfl)).2
end Go.Proofs.YthopjgahedijcaaGreat

namespace Go.Proofs.YthopjgahedijcaaGreat
open Go Go.Tx Go.Pel
theorem cmpI64_eq (d : Nat) (a b : Int) : F_cmp_Compare_int64 d ((a, ()), (b, ()), ()) = some (cmpZ a b) := by
  simp only [F_cmp_Compare_int64, cmp_Compare_int64_K, cmp_Compare_int64_r0, cmp_Compare_int64_r1, cmp_Compare_int64_r2, cmp_Compare_int64_r3, cmp_Compare_int64_r4, cmp_Compare_int64_r5, cmp_Compare_int64_r6, cmp_Compare_int64_r7, cmp_Compare_int64_r8, cmp_Compare_int64_r9, cmp_Compare_int64_r10, cmp_Compare_int64_r11, cmp_Compare_int64_r12, cmp_Compare_int64_r13, F_cmp_isNaN_int64, cmp_isNaN_int64_K, cmp_isNaN_int64_r0, cmp_isNaN_int64_r1, Dt.eval, bne_self_eq_false, cond_false]
  unfold cmpZ
  by_cases h1 : a < b
  · simp only [h1, decide_true, cond_true, if_true]
  · by_cases h2 : b < a
    · simp only [h1, h2, gt_iff_lt, decide_true, decide_false, cond_true, cond_false, if_true, if_false]
    · simp only [h1, h2, gt_iff_lt, decide_false, cond_false, if_false]
theorem cmpU64_eq (d : Nat) (a b : Int) : F_cmp_Compare_uint64 d ((a, ()), (b, ()), ()) = some (cmpZ a b) := by
  simp only [F_cmp_Compare_uint64, cmp_Compare_uint64_K, cmp_Compare_uint64_r0, cmp_Compare_uint64_r1, cmp_Compare_uint64_r2, cmp_Compare_uint64_r3, cmp_Compare_uint64_r4, cmp_Compare_uint64_r5, cmp_Compare_uint64_r6, cmp_Compare_uint64_r7, cmp_Compare_uint64_r8, cmp_Compare_uint64_r9, cmp_Compare_uint64_r10, cmp_Compare_uint64_r11, cmp_Compare_uint64_r12, cmp_Compare_uint64_r13, F_cmp_isNaN_uint64, cmp_isNaN_uint64_K, cmp_isNaN_uint64_r0, cmp_isNaN_uint64_r1, Dt.eval, bne_self_eq_false, cond_false]
  unfold cmpZ
  by_cases h1 : a < b
  · simp only [h1, decide_true, cond_true, if_true]
  · by_cases h2 : b < a
    · simp only [h1, h2, gt_iff_lt, decide_true, decide_false, cond_true, cond_false, if_true, if_false]
    · simp only [h1, h2, gt_iff_lt, decide_false, cond_false, if_false]
theorem cmpInt_eq (d : Nat) (a b : Int) : F_cmp_Compare_int d ((a, ()), (b, ()), ()) = some (cmpZ a b) := by
  simp only [F_cmp_Compare_int, cmp_Compare_int_K, cmp_Compare_int_r0, cmp_Compare_int_r1, cmp_Compare_int_r2, cmp_Compare_int_r3, cmp_Compare_int_r4, cmp_Compare_int_r5, cmp_Compare_int_r6, cmp_Compare_int_r7, cmp_Compare_int_r8, cmp_Compare_int_r9, cmp_Compare_int_r10, cmp_Compare_int_r11, cmp_Compare_int_r12, cmp_Compare_int_r13, F_cmp_isNaN_int, cmp_isNaN_int_K, cmp_isNaN_int_r0, cmp_isNaN_int_r1, Dt.eval, bne_self_eq_false, cond_false]
  unfold cmpZ
  by_cases h1 : a < b
  · simp only [h1, decide_true, cond_true, if_true]
  · by_cases h2 : b < a
    · simp only [h1, h2, gt_iff_lt, decide_true, decide_false, cond_true, cond_false, if_true, if_false]
    · simp only [h1, h2, gt_iff_lt, decide_false, cond_false, if_false]
theorem abs_eq (d : Nat) (a : Int) (h : i64B a = true) : F_ratio_abs d ((a, ()), ()) = some (a.natAbs : Int) := by
  have h := i64B_iff h
  simp only [F_ratio_abs, ratio_abs_K, ratio_abs_r0, ratio_abs_r1, ratio_abs_r2, ratio_abs_r3, Dt.eval]
  by_cases h1 : a < 0
  · simp only [h1, decide_true, cond_true, IntKind.wrap_u64]
    exact congrArg some (by omega : ((0 : Int) - a % 18446744073709551616) % 18446744073709551616 = (a.natAbs : Int))
  · simp only [h1, decide_false, cond_false, IntKind.wrap_u64]
    exact congrArg some (by omega : (a % 18446744073709551616 : Int) = (a.natAbs : Int))
theorem mul_cond {a b : Int} (ha : i64B a = true) (hb : i64B b = true) : (a * b).natAbs < 340282366920938463463374607431768211456 := by
  have ha := i64B_iff ha
  have hb := i64B_iff hb
  rw [Int.natAbs_mul]
  have := Nat.mul_le_mul (show a.natAbs ≤ 9223372036854775808 by omega) (show b.natAbs ≤ 9223372036854775808 by omega)
  omega
theorem times_eq (d : Nat) (a b : Int) (ha : i64B a = true) (hb : i64B b = true) : F_ratio_times d ((a, ()), (b, ()), ()) = some (!((decide (a < 0)) == (decide (b < 0))), (((a * b).natAbs / 18446744073709551616 : Nat) : Int), (((a * b).natAbs % 18446744073709551616 : Nat) : Int)) := by
  have e1 := abs_eq d a ha
  have e2 := abs_eq d b hb
  have ha' := i64B_iff ha
  have hb' := i64B_iff hb
  have e3 : F_math_bits_Mul64 d (((a.natAbs : Int), ()), ((b.natAbs : Int), ()), ()) = some (((a.natAbs : Int) * (b.natAbs : Int)) / 18446744073709551616, ((a.natAbs : Int) * (b.natAbs : Int)) % 18446744073709551616) := by
    rw [F_math_bits_Mul64_eq _ _ (by unfold math_bits_Mul64_if u64B; simp only [Bool.and_eq_true, decide_eq_true_eq]; omega)]
  simp only [F_ratio_times, ratio_times_K, ratio_times_r0, ratio_times_r1, ratio_times_r2, Dt.eval, e1, e2, e3]
  rw [Int.natAbs_mul]
  simp
theorem ltZ (a b : Int) : cmpZ a b = -1 ∧ a < b ∨ cmpZ a b = 0 ∧ a = b ∨ cmpZ a b = 1 ∧ b < a := by
  unfold cmpZ
  repeat' split
  all_goals omega
theorem ratio_compare_eq (d : Nat) (n1 n2 : Bool) (P Q : Nat) : F_ratio_compare d ((n1, ((P / 18446744073709551616 : Nat) : Int), ((P % 18446744073709551616 : Nat) : Int), ()), (n2, ((Q / 18446744073709551616 : Nat) : Int), ((Q % 18446744073709551616 : Nat) : Int), ()), ()) = some (cmpZ (P : Int) (Q : Int)) := by
  simp only [F_ratio_compare, ratio_compare_K, ratio_compare_r0, ratio_compare_r1, ratio_compare_r2, ratio_compare_r3, ratio_compare_r4, Dt.eval, cmpU64_eq]
  rcases ltZ ((P / 18446744073709551616 : Nat) : Int) ((Q / 18446744073709551616 : Nat) : Int) with ⟨h1, h2⟩ | ⟨h1, h2⟩ | ⟨h1, h2⟩
  · simp only [h1, show ((-1 : Int) != 0) = true from rfl, cond_true]
    rw [cmpZ_lt (by omega)]
  · simp only [h1, show ((0 : Int) != 0) = false from rfl, cond_false]
    rcases ltZ (P : Int) (Q : Int) with ⟨k1, k2⟩ | ⟨k1, k2⟩ | ⟨k1, k2⟩
    · rw [k1, cmpZ_lt (by omega)]
    · rw [k1, cmpZ_eq (by omega)]
    · rw [k1, cmpZ_gt (by omega)]
  · simp only [h1, show ((1 : Int) != 0) = true from rfl, cond_true]
    rw [cmpZ_gt (by omega)]
theorem both_eq (d : Nat) (n1 d1 n2 d2 : Int) (h1 : i64B n1 = true) (h2 : i64B d1 = true) (h3 : i64B n2 = true) (h4 : i64B d2 = true) : F_ratio_both d ((n1, d1, ()), (n2, d2, ()), ()) = some (tmax (ratioChk n1 d1) (ratioChk n2 d2)) := by
  have e1 : F_ratio_Check d ((n1, d1, ()), ()) = some (ratioChk n1 d1) := F_ratio_Check_eq _ _ (by unfold ratio_Check_if; simp only [h1, h2, Bool.and_self])
  have e2 : F_ratio_Check d ((n2, d2, ()), ()) = some (ratioChk n2 d2) := F_ratio_Check_eq _ _ (by unfold ratio_Check_if; simp only [h3, h4, Bool.and_self])
  simp only [F_ratio_both, ratio_both_K, ratio_both_r0, ratio_both_r1, Dt.eval, e1, e2]
/-- fractions compared, and an error -/
def cmpR (n1 d1 n2 d2 : Int) : Int × Int := if ratioChk n1 d1 = 0 ∧ ratioChk n2 d2 = 0 then (cmpQ n1 d1 n2 d2, 0) else (0, 8)
theorem rCmp_eq (d : Nat) (n1 d1 n2 d2 : Int) (h1 : i64B n1 = true) (h2 : i64B d1 = true) (h3 : i64B n2 = true) (h4 : i64B d2 = true) : F_ratio_Cmp d ((n1, d1, ()), (n2, d2, ()), ()) = some (cmpR n1 d1 n2 d2) := by
  unfold cmpR
  have e0 := both_eq d n1 d1 n2 d2 h1 h2 h3 h4
  by_cases hc : ratioChk n1 d1 = 0 ∧ ratioChk n2 d2 = 0
  · rw [if_pos hc]
    rw [hc.1, hc.2] at e0
    obtain ⟨g1, _, _⟩ := ratioChk_zero hc.1
    obtain ⟨g2, _, _⟩ := ratioChk_zero hc.2
    have e1 := times_eq d n1 d2 h1 h4
    have e2 := times_eq d n2 d1 h3 h2
    have e3 := cmpI64_eq d n1 n2
    simp only [F_ratio_Cmp, ratio_Cmp_K, ratio_Cmp_r0, ratio_Cmp_r1, ratio_Cmp_r2, ratio_Cmp_r3, ratio_Cmp_r4, ratio_Cmp_r5, ratio_Cmp_r6, ratio_Cmp_r7, ratio_Cmp_r8, ratio_Cmp_r9, ratio_Cmp_J1, Dt.eval, e0, e1, e2, e3, ratio_compare_eq, show tmax 0 0 = 0 from rfl, show ((0 : Int) != 0) = false from rfl, cond_false]
    unfold cmpQ
    have p1 : 0 < d1 := by omega
    have p2 : 0 < d2 := by omega
    have s1 : (n1 < 0 → n1 * d2 < 0) ∧ (0 ≤ n1 → 0 ≤ n1 * d2) := ⟨fun h => Int.mul_neg_of_neg_of_pos h p2, fun h => Int.mul_nonneg h (by omega)⟩
    have s2 : (n2 < 0 → n2 * d1 < 0) ∧ (0 ≤ n2 → 0 ≤ n2 * d1) := ⟨fun h => Int.mul_neg_of_neg_of_pos h p1, fun h => Int.mul_nonneg h (by omega)⟩
    generalize n1 * d2 = P at *
    generalize n2 * d1 = Q at *
    by_cases k1 : n1 < 0 <;> by_cases k2 : n2 < 0 <;> simp only [k1, k2, decide_true, decide_false, beq_self_eq_true, Bool.not_true, Bool.not_false, cond_true, cond_false, Bool.false_beq, Bool.true_beq]
    · have := s1.1 k1
      have := s2.1 k2
      rcases ltZ (P.natAbs : Int) (Q.natAbs : Int) with ⟨g1, g2⟩ | ⟨g1, g2⟩ | ⟨g1, g2⟩
      · rw [g1, cmpZ_gt (a := P) (b := Q) (by omega)]; rfl
      · rw [g1, cmpZ_eq (a := P) (b := Q) (by omega)]; rfl
      · rw [g1, cmpZ_lt (a := P) (b := Q) (by omega)]; rfl
    · have := s1.1 k1
      have := s2.2 (by omega)
      rw [cmpZ_lt (by omega), cmpZ_lt (by omega)]
    · have := s1.2 (by omega)
      have := s2.1 k2
      rw [cmpZ_gt (by omega), cmpZ_gt (by omega)]
    · have := s1.2 (by omega)
      have := s2.2 (by omega)
      rw [show (P.natAbs : Int) = P by omega, show (Q.natAbs : Int) = Q by omega]
  · rw [if_neg hc]
    have e1 : tmax (ratioChk n1 d1) (ratioChk n2 d2) = 8 := by
      unfold tmax
      rcases ratioChk_cases n1 d1 with q1 | q1 <;> rcases ratioChk_cases n2 d2 with q2 | q2
      · exact absurd ⟨q1, q2⟩ hc
      all_goals rw [q1, q2]; rfl
    rw [e1] at e0
    simp only [F_ratio_Cmp, ratio_Cmp_K, ratio_Cmp_r0, ratio_Cmp_r1, ratio_Cmp_r2, ratio_Cmp_r3, Dt.eval, e0, show ((8 : Int) != 0) = true from rfl, cond_true]
theorem later_eq (d : Nat) (n1 d1 n2 d2 : Int) (h1 : i64B n1 = true) (h2 : i64B d1 = true) (h3 : i64B n2 = true) (h4 : i64B d2 = true) : F_meet_later d ((n1, d1, ()), (n2, d2, ()), ()) = some (cmpR n1 d1 n2 d2).1 := by
  have e1 := rCmp_eq d n1 d1 n2 d2 h1 h2 h3 h4
  simp only [F_meet_later, meet_later_K, meet_later_r0, meet_later_r1, meet_later_r2, Dt.eval, e1]
theorem rSign_eq (d : Nat) (P : Int) : F_ref01_Sign d ((decide (P < 0), ((P.natAbs / 18446744073709551616 : Nat) : Int), ((P.natAbs % 18446744073709551616 : Nat) : Int), ()), ()) = some (cmpZ P 0) := by
  simp only [F_ref01_Sign, ref01_Sign_K, ref01_Sign_r0, ref01_Sign_r1, ref01_Sign_r2, ref01_Sign_r3, ref01_Sign_r4, ref01_Sign_r5, Dt.eval]
  by_cases h0 : P = 0
  · subst h0; rfl
  · have hne : ¬ (((P.natAbs / 18446744073709551616 : Nat) : Int) = 0 ∧ ((P.natAbs % 18446744073709551616 : Nat) : Int) = 0) := by omega
    have hh : (bif (((P.natAbs / 18446744073709551616 : Nat) : Int) == 0) then (((P.natAbs % 18446744073709551616 : Nat) : Int) == 0) else false) = false := by
      cases h1 : (((P.natAbs / 18446744073709551616 : Nat) : Int) == 0) with
      | false => rfl
      | true => rw [cond_true, beq_eq_false_iff_ne]; rw [beq_iff_eq] at h1; intro h2; exact hne ⟨h1, h2⟩
    cases h1 : (((P.natAbs / 18446744073709551616 : Nat) : Int) == 0) with
    | false =>
      simp only [cond_false]
      rcases ltZ P 0 with ⟨k1, k2⟩ | ⟨k1, k2⟩ | ⟨k1, k2⟩
      · simp only [k1, k2, decide_true, cond_true]
      · exact absurd k2 h0
      · simp only [k1, show ¬ P < 0 by omega, decide_false, cond_false]
    | true =>
      rw [h1, cond_true] at hh
      simp only [cond_true, hh, cond_false]
      rcases ltZ P 0 with ⟨k1, k2⟩ | ⟨k1, k2⟩ | ⟨k1, k2⟩
      · simp only [k1, k2, decide_true, cond_true]
      · exact absurd k2 h0
      · simp only [k1, show ¬ P < 0 by omega, decide_false, cond_false]
theorem rLess_eq (d : Nat) (n1 n2 : Bool) (P Q : Nat) : F_ref01_less d ((n1, ((P / 18446744073709551616 : Nat) : Int), ((P % 18446744073709551616 : Nat) : Int), ()), (n2, ((Q / 18446744073709551616 : Nat) : Int), ((Q % 18446744073709551616 : Nat) : Int), ()), ()) = some (cmpZ (P : Int) (Q : Int)) := by
  simp only [F_ref01_less, ref01_less_K, ref01_less_r0, ref01_less_r1, ref01_less_r2, ref01_less_r3, ref01_less_r4, ref01_less_r5, ref01_less_r6, ref01_less_r7, ref01_less_r8, ref01_less_r9, Dt.eval]
  obtain ⟨a, ha⟩ : ∃ a : Int, ((P / 18446744073709551616 : Nat) : Int) = a := ⟨_, rfl⟩
  obtain ⟨b, hb⟩ : ∃ a : Int, ((P % 18446744073709551616 : Nat) : Int) = a := ⟨_, rfl⟩
  obtain ⟨c, hc⟩ : ∃ a : Int, ((Q / 18446744073709551616 : Nat) : Int) = a := ⟨_, rfl⟩
  obtain ⟨e, he⟩ : ∃ a : Int, ((Q % 18446744073709551616 : Nat) : Int) = a := ⟨_, rfl⟩
  rw [ha, hb, hc, he]
  rcases ltZ a c with ⟨_, k2⟩ | ⟨_, k2⟩ | ⟨_, k2⟩
  · have e1 : (a != c) = true := by simp; omega
    simp only [e1, k2, decide_true, cond_true]
    rw [cmpZ_lt (by omega)]
  · have e1 : (a != c) = false := by simp; omega
    simp only [e1, cond_false]
    rcases ltZ b e with ⟨_, g2⟩ | ⟨_, g2⟩ | ⟨_, g2⟩
    · have e2 : (b != e) = true := by simp; omega
      simp only [e2, g2, decide_true, cond_true]
      rw [cmpZ_lt (by omega)]
    · have e2 : (b != e) = false := by simp; omega
      simp only [e2, cond_false]
      rw [cmpZ_eq (by omega)]
    · have e2 : (b != e) = true := by simp; omega
      simp only [e2, show ¬ b < e by omega, decide_false, cond_true, cond_false]
      rw [cmpZ_gt (by omega)]
  · have e1 : (a != c) = true := by simp; omega
    simp only [e1, show ¬ a < c by omega, decide_false, cond_true, cond_false]
    rw [cmpZ_gt (by omega)]
theorem rCompare_eq (d : Nat) (n1 d1 n2 d2 : Int) (h1 : i64B n1 = true) (h2 : i64B d1 = true) (h3 : i64B n2 = true) (h4 : i64B d2 = true) : F_ref01_Compare d ((n1, d1, ()), (n2, d2, ()), ()) = some (cmpQ n1 d1 n2 d2) := by
  have e1 : F_ref01_Product d ((n1, ()), (d2, ()), ()) = some (decide (n1 * d2 < 0), (((n1 * d2).natAbs / 18446744073709551616 : Nat) : Int), (((n1 * d2).natAbs % 18446744073709551616 : Nat) : Int)) := F_ref01_Product_eq _ _ (by unfold ref01_Product_if; simp only [h1, h4, Bool.and_self])
  have e2 : F_ref01_Product d ((n2, ()), (d1, ()), ()) = some (decide (n2 * d1 < 0), (((n2 * d1).natAbs / 18446744073709551616 : Nat) : Int), (((n2 * d1).natAbs % 18446744073709551616 : Nat) : Int)) := F_ref01_Product_eq _ _ (by unfold ref01_Product_if; simp only [h3, h2, Bool.and_self])
  unfold cmpQ
  generalize n1 * d2 = P at *
  generalize n2 * d1 = Q at *
  have hs := @cmp_sign P Q
  have hn := @cmp_neg P Q
  have hp := @cmp_pos P Q
  simp only [F_ref01_Compare, ref01_Compare_K, ref01_Compare_r0, ref01_Compare_r1, ref01_Compare_r2, ref01_Compare_r3, ref01_Compare_r4, ref01_Compare_r5, ref01_Compare_r6, ref01_Compare_r7, ref01_Compare_r8, Dt.eval, e1, e2, rSign_eq, rLess_eq]
  by_cases hg : cmpZ P 0 = cmpZ Q 0
  · have g1 : (cmpZ P 0 != cmpZ Q 0) = false := by simp [hg]
    simp only [g1, cond_false]
    by_cases h0 : cmpZ P 0 < 0
    · simp only [h0, decide_true, cond_true]; rw [hn hg h0]
    · simp only [h0, decide_false, cond_false]; rw [hp hg h0]
  · have g1 : (cmpZ P 0 != cmpZ Q 0) = true := by simp [hg]
    simp only [g1, cond_true]
    have := hs hg
    by_cases h0 : cmpZ P 0 < cmpZ Q 0
    · rw [if_pos h0] at this; simp only [h0, decide_true, cond_true]; rw [this]
    · rw [if_neg h0] at this; simp only [h0, decide_false, cond_false]; rw [this]
end Go.Proofs.YthopjgahedijcaaGreat

namespace Go.Pel
open Go Go.Tx
abbrev T3 : Type := Int × Int × Int × Unit
abbrev M4 : Type := Int × Int × Int × Int × Unit
theorem q_le {a b c d1 d2 d3 : Int} (h1 : 1 ≤ d1) (h2 : 1 ≤ d2) (h3 : 1 ≤ d3) (h : a * d2 ≤ b * d1) (k : b * d3 ≤ c * d2) : a * d3 ≤ c * d1 := by
  have e1 : a * d3 * d2 ≤ c * d1 * d2 := by
    have := Int.mul_le_mul_of_nonneg_right h (show (0 : Int) ≤ d3 by omega)
    have := Int.mul_le_mul_of_nonneg_right k (show (0 : Int) ≤ d1 by omega)
    rw [Int.mul_right_comm a d3 d2, Int.mul_right_comm c d1 d2]
    have e : b * d1 * d3 = b * d3 * d1 := Int.mul_right_comm b d1 d3
    omega
  exact Int.le_of_mul_le_mul_right e1 (by omega)
theorem q_lt {a b c d1 d2 d3 : Int} (h1 : 1 ≤ d1) (h2 : 1 ≤ d2) (h3 : 1 ≤ d3) (h : a * d2 < b * d1) (k : b * d3 ≤ c * d2) : a * d3 < c * d1 := by
  have e1 : a * d3 * d2 < c * d1 * d2 := by
    have := Int.mul_lt_mul_of_pos_right h (show (0 : Int) < d3 by omega)
    have := Int.mul_le_mul_of_nonneg_right k (show (0 : Int) ≤ d1 by omega)
    rw [Int.mul_right_comm a d3 d2, Int.mul_right_comm c d1 d2]
    have e : b * d1 * d3 = b * d3 * d1 := Int.mul_right_comm b d1 d3
    omega
  exact Int.lt_of_mul_lt_mul_right e1 (by omega)
theorem q_lt' {a b c d1 d2 d3 : Int} (h1 : 1 ≤ d1) (h2 : 1 ≤ d2) (h3 : 1 ≤ d3) (h : a * d2 ≤ b * d1) (k : b * d3 < c * d2) : a * d3 < c * d1 := by
  have e1 : a * d3 * d2 < c * d1 * d2 := by
    have := Int.mul_le_mul_of_nonneg_right h (show (0 : Int) ≤ d3 by omega)
    have := Int.mul_lt_mul_of_pos_right k (show (0 : Int) < d1 by omega)
    rw [Int.mul_right_comm a d3 d2, Int.mul_right_comm c d1 d2]
    have e : b * d1 * d3 = b * d3 * d1 := Int.mul_right_comm b d1 d3
    omega
  exact Int.lt_of_mul_lt_mul_right e1 (by omega)
/-- fractions in lowest terms are equal if their values are -/
theorem q_eq {a b d1 d2 : Int} (h1 : ratioChk a d1 = 0) (h2 : ratioChk b d2 = 0) (h : a * d2 = b * d1) : a = b ∧ d1 = d2 := by
  obtain ⟨p1, _, g1⟩ := ratioChk_zero h1
  obtain ⟨p2, _, g2⟩ := ratioChk_zero h2
  have hn : a.natAbs * d2.toNat = b.natAbs * d1.toNat := by
    have := congrArg Int.natAbs h
    rw [Int.natAbs_mul, Int.natAbs_mul] at this
    rwa [show d2.natAbs = d2.toNat by omega, show d1.natAbs = d1.toNat by omega] at this
  have k1 : d1.toNat ∣ d2.toNat := Nat.Coprime.dvd_of_dvd_mul_left (k := d1.toNat) (m := a.natAbs) (n := d2.toNat) g1 ⟨b.natAbs, by rw [hn, Nat.mul_comm]⟩
  have k2 : d2.toNat ∣ d1.toNat := Nat.Coprime.dvd_of_dvd_mul_left (k := d2.toNat) (m := b.natAbs) (n := d1.toNat) g2 ⟨a.natAbs, by rw [← hn, Nat.mul_comm]⟩
  have e : d1.toNat = d2.toNat := Nat.dvd_antisymm k1 k2
  have e' : d1 = d2 := by omega
  subst e'
  exact ⟨Int.eq_of_mul_eq_mul_right (by omega) h, rfl⟩
def okM (x : M4) : Prop := ratioChk x.1 x.2.1 = 0
def cmpM (x y : M4) : Int := orZ (cmpQ x.1 x.2.1 y.1 y.2.1) (orZ (cmpZ x.2.2.1 y.2.2.1) (cmpZ x.2.2.2.1 y.2.2.2.1))
def ltM (x y : M4) : Bool := decide (cmpM x y < 0)
theorem ltM_iff (x y : M4) : ltM x y = true ↔ x.1 * y.2.1 < y.1 * x.2.1 ∨ (x.1 * y.2.1 = y.1 * x.2.1 ∧ (x.2.2.1 < y.2.2.1 ∨ (x.2.2.1 = y.2.2.1 ∧ x.2.2.2.1 < y.2.2.2.1))) := by
  unfold ltM cmpM cmpQ orZ cmpZ
  rw [decide_eq_true_eq]
  generalize x.1 * y.2.1 = P
  generalize y.1 * x.2.1 = Q
  repeat' split
  all_goals omega
theorem ltM_not (x y : M4) (h : ltM x y = false) : ¬ (x.1 * y.2.1 < y.1 * x.2.1 ∨ (x.1 * y.2.1 = y.1 * x.2.1 ∧ (x.2.2.1 < y.2.2.1 ∨ (x.2.2.1 = y.2.2.1 ∧ x.2.2.2.1 < y.2.2.2.1)))) := by
  intro k; rw [(ltM_iff x y).2 k] at h; cases h
theorem ltM_irr (x : M4) : ltM x x = false := by
  rw [← Bool.not_eq_true, ltM_iff]; omega
theorem ltM_asymm {x y : M4} (h : ltM x y = true) : ltM y x = false := by
  rw [ltM_iff] at h
  rw [← Bool.not_eq_true, ltM_iff]; omega
theorem ltM_trans {x y z : M4} (hx : okM x) (hy : okM y) (hz : okM z) (h : ltM x y = true) (k : ltM y z = true) : ltM x z = true := by
  obtain ⟨p1, _, _⟩ := ratioChk_zero hx
  obtain ⟨p2, _, _⟩ := ratioChk_zero hy
  obtain ⟨p3, _, _⟩ := ratioChk_zero hz
  rw [ltM_iff] at h k ⊢
  have a1 := @q_lt x.1 y.1 z.1 x.2.1 y.2.1 z.2.1 p1 p2 p3
  have a2 := @q_lt' x.1 y.1 z.1 x.2.1 y.2.1 z.2.1 p1 p2 p3
  have a3 := @q_le x.1 y.1 z.1 x.2.1 y.2.1 z.2.1 p1 p2 p3
  have a4 := @q_le z.1 y.1 x.1 z.2.1 y.2.1 x.2.1 p3 p2 p1
  generalize x.1 * y.2.1 = A at *
  generalize y.1 * x.2.1 = B at *
  generalize y.1 * z.2.1 = C at *
  generalize z.1 * y.2.1 = D at *
  generalize x.1 * z.2.1 = E at *
  generalize z.1 * x.2.1 = G at *
  rcases h with h | ⟨h, h'⟩
  · left
    refine a1 h ?_
    rcases k with k | ⟨k, _⟩ <;> omega
  · rcases k with k | ⟨k, k'⟩
    · left; exact a2 (by omega) k
    · right
      refine ⟨Int.le_antisymm (a3 (by omega) (by omega)) (a4 (by omega) (by omega)), by omega⟩
theorem ltM_neg {x y z : M4} (hx : okM x) (hy : okM y) (hz : okM z) (h : ltM x y = false) (k : ltM y z = false) : ltM x z = false := by
  obtain ⟨p1, _, _⟩ := ratioChk_zero hx
  obtain ⟨p2, _, _⟩ := ratioChk_zero hy
  obtain ⟨p3, _, _⟩ := ratioChk_zero hz
  have h := ltM_not _ _ h
  have k := ltM_not _ _ k
  rw [← Bool.not_eq_true, ltM_iff]
  have a1 := @q_lt z.1 y.1 x.1 z.2.1 y.2.1 x.2.1 p3 p2 p1
  have a2 := @q_lt' z.1 y.1 x.1 z.2.1 y.2.1 x.2.1 p3 p2 p1
  have a3 := @q_le x.1 y.1 z.1 x.2.1 y.2.1 z.2.1 p1 p2 p3
  have a4 := @q_le z.1 y.1 x.1 z.2.1 y.2.1 x.2.1 p3 p2 p1
  generalize x.1 * y.2.1 = A at *
  generalize y.1 * x.2.1 = B at *
  generalize y.1 * z.2.1 = C at *
  generalize z.1 * y.2.1 = D at *
  generalize x.1 * z.2.1 = E at *
  generalize z.1 * x.2.1 = G at *
  have f4 := a4 (by omega) (by omega)
  intro q
  have hE : E = G := by omega
  have hAB : A = B := by
    rcases Int.lt_or_eq_of_le (show B ≤ A by omega) with h5 | h5
    · have := a2 (by omega) h5; omega
    · omega
  have hCD : C = D := by
    rcases Int.lt_or_eq_of_le (show D ≤ C by omega) with h5 | h5
    · have := a1 h5 (by omega); omega
    · omega
  omega
theorem ltM_eq {x y : M4} (hx : okM x) (hy : okM y) (h : ltM x y = false) (k : ltM y x = false) : x = y := by
  have h := ltM_not _ _ h
  have k := ltM_not _ _ k
  obtain ⟨e1, e2⟩ := q_eq hx hy (by omega)
  obtain ⟨a, b, c, e, ⟨⟩⟩ := x
  obtain ⟨a', b', c', e', ⟨⟩⟩ := y
  simp only at e1 e2 h k
  subst e1 e2
  have : c = c' := by omega
  have : e = e' := by omega
  subst_vars; rfl
/-- sorted lists of the same meetings are the same -/
theorem sorted_uniq {l m : List M4} (hok : ∀ x ∈ l, okM x) (hp : l.Perm m) (hl : l.Pairwise fun a b => ltM b a = false) (hm : m.Pairwise fun a b => ltM b a = false) : l = m := by
  refine List.Perm.eq_of_pairwise (le := fun a b => ltM b a = false) ?_ hl hm hp
  intro a b ha hb h k
  exact ltM_eq (hok a ha) (hok b (hp.symm.mem_iff.1 hb)) k h
theorem mk_ok {n d : Int} (hd : d ≠ 0) (hn : n.natAbs ≤ 4194304) (hd2 : d.natAbs ≤ 4194304) : (mk n d).2.2 = 0 ∧ ratioChk (mk n d).1 (mk n d).2.1 = 0 ∧ (mk n d).1.natAbs ≤ 4194304 ∧ (mk n d).2.1 ≤ 4194304 := by
  have hg := mk_gcd_pos (n := n) hd
  rw [mk_some hd]
  have b1 : n.natAbs / Nat.gcd n.natAbs d.natAbs ≤ n.natAbs := Nat.div_le_self _ _
  have b2 : d.natAbs / Nat.gcd n.natAbs d.natAbs ≤ d.natAbs := Nat.div_le_self _ _
  have b3 : 1 ≤ d.natAbs / Nat.gcd n.natAbs d.natAbs := Nat.div_pos (Nat.gcd_le_right _ (by omega)) hg
  have hc : Nat.gcd (d.natAbs / Nat.gcd n.natAbs d.natAbs) (n.natAbs / Nat.gcd n.natAbs d.natAbs) = 1 := by
    rw [Nat.gcd_comm]; exact Nat.coprime_div_gcd_div_gcd hg
  generalize n.natAbs / Nat.gcd n.natAbs d.natAbs = A at *
  generalize d.natAbs / Nat.gcd n.natAbs d.natAbs = B at *
  have hno : ¬ (0 < 0 ∨ 9223372036854775807 < A ∨ 0 < 0 ∨ 9223372036854775807 < B) := by omega
  cases (decide (n < 0) != decide (d < 0)) with
  | true =>
    rw [bld_neg hno]
    refine ⟨rfl, ratioChk_one (by simp only; omega) (by simp only; omega) ?_, by simp only; omega, by simp only; omega⟩
    simp only [Int.toNat_natCast, Int.natAbs_neg, Int.natAbs_natCast]; exact hc
  | false =>
    rw [bld_pos hno]
    refine ⟨rfl, ratioChk_one (by simp only; omega) (by simp only; omega) ?_, by simp only; omega, by simp only; omega⟩
    simp only [Int.toNat_natCast, Int.natAbs_natCast]; exact hc
/-- where two points meet -/
def mtP (x : T3 × T3) : Option M4 := if x.1.2.2.1 = x.2.2.2.1 then none else some ((mk (x.1.2.1 - x.2.2.1) (x.2.2.2.1 - x.1.2.2.1)).1, (mk (x.1.2.1 - x.2.2.1) (x.2.2.2.1 - x.1.2.2.1)).2.1, x.1.1, x.2.1, ())
def meetsL (l : List T3) : List M4 := (pairsL l).filterMap mtP
def allM (l : List T3) : List M4 := sortL ltM (meetsL l)
def okP (p : T3) : Prop := (ofP p).chk = 0
theorem pairsL_mem {α : Type} {R : α → α → Prop} : ∀ {l : List α} {x : α × α}, x ∈ pairsL l → l.Pairwise R → x.1 ∈ l ∧ x.2 ∈ l ∧ R x.1 x.2
  | [], x, h, _ => by cases h
  | p :: r, x, h, hR => by
    obtain ⟨h1, h2⟩ := List.pairwise_cons.1 hR
    rw [pairsL] at h
    rcases List.mem_append.1 h with h | h
    · obtain ⟨q, hq, rfl⟩ := List.mem_map.1 h
      exact ⟨List.mem_cons_self .., List.mem_cons_of_mem _ hq, h1 q hq⟩
    · obtain ⟨a, b, c⟩ := pairsL_mem h h2
      exact ⟨List.mem_cons_of_mem _ a, List.mem_cons_of_mem _ b, c⟩
theorem pairsL_len {α : Type} : ∀ l : List α, (pairsL l).length ≤ l.length * l.length
  | [] => Nat.le_refl _
  | p :: r => by
    have := pairsL_len r
    rw [pairsL, List.length_append, List.length_map, List.length_cons]
    have e : (r.length + 1) * (r.length + 1) = r.length * r.length + 2 * r.length + 1 := by
      rw [Nat.mul_add, Nat.add_mul]; omega
    omega
theorem mt_ok {x : T3 × T3} {y : M4} (h1 : okP x.1) (h2 : okP x.2) (h : mtP x = some y) : okM y ∧ y.1.natAbs ≤ 4194304 ∧ y.2.1 ≤ 4194304 := by
  unfold mtP at h
  split at h
  · cases h
  · rename_i hb
    injection h with h; subst h
    obtain ⟨_, _, a1, a2, a3, a4⟩ := pointChk_zero (show pointChk x.1.1 x.1.2.1 x.1.2.2.1 = 0 from h1)
    obtain ⟨_, _, b1, b2, b3, b4⟩ := pointChk_zero (show pointChk x.2.1 x.2.2.1 x.2.2.2.1 = 0 from h2)
    obtain ⟨_, k1, k2, k3⟩ := mk_ok (n := x.1.2.1 - x.2.2.1) (d := x.2.2.2.1 - x.1.2.2.1) (by omega) (by omega) (by omega)
    exact ⟨k1, k2, k3⟩
/-- a field is valid -/
structure FldOk (l : List T3) : Prop where
  len : l.length ≤ 64
  ok : ∀ p ∈ l, okP p
  inc : l.Pairwise fun p q => p.1 < q.1
theorem meets_ok {l : List T3} (h : FldOk l) {y : M4} (hy : y ∈ meetsL l) : okM y ∧ y.1.natAbs ≤ 4194304 ∧ y.2.1 ≤ 4194304 := by
  obtain ⟨x, hx, he⟩ := List.mem_filterMap.1 hy
  obtain ⟨h1, h2, _⟩ := pairsL_mem hx h.inc
  exact mt_ok (h.ok _ h1) (h.ok _ h2) he
theorem meets_len {l : List T3} (h : FldOk l) : (meetsL l).length ≤ 4096 := by
  have h1 := List.length_filterMap_le mtP (pairsL l)
  have h2 := pairsL_len l
  have h3 := Nat.mul_le_mul h.len h.len
  unfold meetsL; omega
theorem allM_perm (l : List T3) : (allM l).Perm (meetsL l) := sortL_perm _ _
theorem allM_ok {l : List T3} (h : FldOk l) {y : M4} (hy : y ∈ allM l) : okM y ∧ y.1.natAbs ≤ 4194304 ∧ y.2.1 ≤ 4194304 := meets_ok h ((allM_perm l).mem_iff.1 hy)
theorem allM_len {l : List T3} (h : FldOk l) : (allM l).length ≤ 4096 := by rw [(allM_perm l).length_eq]; exact meets_len h
theorem allM_pw {l : List T3} (h : FldOk l) : (allM l).Pairwise fun a b => ltM b a = false :=
  sortL_pw (S := okM) (fun a b _ _ h => ltM_asymm h) (fun a b c ha hb hc h k => ltM_neg ha hb hc h k) _ fun a ha => (meets_ok h ha).1
theorem allM_only {l : List T3} (h : FldOk l) {m : List M4} (hp : m.Perm (meetsL l)) (hm : m.Pairwise fun a b => ltM b a = false) : m = allM l :=
  sorted_uniq (fun x hx => (meets_ok h (hp.mem_iff.1 hx)).1) (hp.trans (allM_perm l).symm) hm (allM_pw h)
end Go.Pel

namespace Go.Tx
theorem insL_congr {α : Type} {f g : α → α → Bool} {x : α} : ∀ {l : List α}, (∀ a ∈ l, f x a = g x a) → insL f x l = insL g x l
  | [], _ => rfl
  | y :: ys, h => by
    rw [insL, insL, h y (List.mem_cons_self ..), insL_congr fun a ha => h a (List.mem_cons_of_mem _ ha)]
theorem sortL_congr {α : Type} {f g : α → α → Bool} : ∀ {l : List α}, (∀ a ∈ l, ∀ b ∈ l, f a b = g a b) → sortL f l = sortL g l
  | [], _ => rfl
  | x :: xs, h => by
    rw [sortL, sortL, sortL_congr fun a ha b hb => h a (List.mem_cons_of_mem _ ha) b (List.mem_cons_of_mem _ hb)]
    exact insL_congr fun a ha => h x (List.mem_cons_self ..) a (List.mem_cons_of_mem _ ((sortL_perm g xs).mem_iff.1 ha))
theorem loopF_map {α β : Type} {step : α → List β → Option (List β)} {g : α → Option β} {P : α → Prop} (hs : ∀ a acc, P a → acc.length ≤ 99999 → step a acc = some (acc ++ (g a).toList)) : ∀ (l : List α) (acc : List β), (∀ a ∈ l, P a) → acc.length + l.length ≤ 99999 → loopF step l acc = some (acc ++ l.filterMap g)
  | [], acc, _, _ => by simp [loopF]
  | a :: l, acc, h, hl => by
    rw [List.length_cons] at hl
    have h1 : (g a).toList.length ≤ 1 := by cases g a <;> simp
    rw [loopF, hs a acc (h a (List.mem_cons_self ..)) (by omega)]
    show loopF step l (acc ++ (g a).toList) = _
    rw [loopF_map hs l _ (fun b hb => h b (List.mem_cons_of_mem _ hb)) (by rw [List.length_append]; omega)]
    cases hg : g a <;> simp [hg]
theorem sortV_gen {τ : Row} {F : den τ × den τ × Unit → Option Int} {S : den τ → Prop} {lt : den τ → den τ → Bool} {c : den τ → den τ → Int} {xs : List (den τ)} (hS : ∀ x ∈ xs, S x) (hF : ∀ x y, S x → S y → F (x, y, ()) = some (c x y)) (hc : ∀ x y, lt x y = decide (c x y < 0)) (hi : ∀ x, lt x x = false)
    (ht : ∀ x y z, S x → S y → S z → lt x y = true → lt y z = true → lt x z = true) (hn : ∀ x y z, S x → S y → S z → lt x y = false → lt y z = false → lt x z = false) (he : ∀ x y, S x → S y → lt x y = false → lt y x = false → eqR τ x y = true) (hl : xs.length ≤ 1000000) : sortV F xs = some (sortL lt xs) := by
  have hlt : ∀ x y, S x → S y → ltV F x y = lt x y := fun x y hx hy => by unfold ltV cmpV; rw [hF x y hx hy, hc]
  have hB : sortB F xs = true := by
    unfold sortB
    simp only [Bool.and_eq_true, List.all_eq_true, Bool.or_eq_true, Bool.not_eq_true']
    refine ⟨⟨⟨⟨fun x hx y hy => ?_, fun x hx => ?_⟩, fun x hx y hy => ?_⟩, fun x hx y hy => ?_⟩, fun x hx y hy => ?_⟩
    · rw [hF x y (hS x hx) (hS y hy)]; rfl
    · rw [hlt x x (hS x hx) (hS x hx)]; exact hi x
    · rw [hlt x y (hS x hx) (hS y hy)]
      cases hxy : lt x y with
      | false => exact .inl rfl
      | true =>
        refine .inr fun z hz => ?_
        rw [hlt y z (hS y hy) (hS z hz), hlt x z (hS x hx) (hS z hz)]
        cases hyz : lt y z with
        | false => exact .inl rfl
        | true => exact .inr (ht x y z (hS x hx) (hS y hy) (hS z hz) hxy hyz)
    · rw [hlt x y (hS x hx) (hS y hy)]
      cases hxy : lt x y with
      | true => exact .inl rfl
      | false =>
        refine .inr fun z hz => ?_
        rw [hlt y z (hS y hy) (hS z hz), hlt x z (hS x hx) (hS z hz)]
        cases hyz : lt y z with
        | true => exact .inl rfl
        | false => exact .inr (hn x y z (hS x hx) (hS y hy) (hS z hz) hxy hyz)
    · rw [hlt x y (hS x hx) (hS y hy), hlt y x (hS y hy) (hS x hx)]
      cases hxy : lt x y with
      | true => exact .inl (.inl rfl)
      | false =>
        cases hyx : lt y x with
        | true => exact .inl (.inr rfl)
        | false => exact .inr (he x y (hS x hx) (hS y hy) hxy hyx)
  unfold sortV
  rw [hB, show Nat.ble xs.length 1000000 = true by rw [Nat.ble_eq]; exact hl]
  exact congrArg some (sortL_congr fun a ha b hb => hlt a b (hS a ha) (hS b hb))
end Go.Tx
namespace Go.Proofs.YthopjgahedijcaaGreat
open Go Go.Tx Go.Pel
theorem i64B_of {a : Int} (h : a.natAbs ≤ 9223372036854775807) : i64B a = true := by
  unfold i64B; simp only [Bool.and_eq_true, decide_eq_true_eq]; omega
theorem orInt_eq (d : Nat) (hd : 5 ≤ d) (a b c : Int) : F_cmp_Or_int d (([(a, ()), (b, ()), (c, ())], ()), ()) = some (orZ a (orZ b c)) := by
  obtain ⟨n, rfl⟩ : ∃ n, d = n + 5 := ⟨d - 5, by omega⟩
  have w1 : IntKind.wrap .i64 ((0 : Int) + 1) = 1 := by decide
  have w2 : IntKind.wrap .i64 ((1 : Int) + 1) = 2 := by decide
  have w3 : IntKind.wrap .i64 ((2 : Int) + 1) = 3 := by decide
  have w4 : IntKind.wrap .i64 (1 : Int) = 1 := by decide
  have w5 : IntKind.wrap .i64 (2 : Int) = 2 := by decide
  have w6 : IntKind.wrap .i64 (3 : Int) = 3 := by decide
  have b0 : inB 0 3 = true := by decide
  have b1 : inB 1 3 = true := by decide
  have b2 : inB 2 3 = true := by decide
  unfold orZ
  by_cases ha : a = 0
  · by_cases hb : b = 0
    · by_cases hc : c = 0
      · subst ha hb hc
        simp [F_cmp_Or_int, cmp_Or_int_K, cmp_Or_int_r0, cmp_Or_int_r1, cmp_Or_int_r2, cmp_Or_int_r3, cmp_Or_int_r4, cmp_Or_int_r5, cmp_Or_int_r6, cmp_Or_int_r7, cmp_Or_int_r8, cmp_Or_int_L1, iter, Dt.eval, w1, w2, w3, w4, w5, w6, b0, b1, b2, elt]
      · subst ha hb
        simp [F_cmp_Or_int, cmp_Or_int_K, cmp_Or_int_r0, cmp_Or_int_r1, cmp_Or_int_r2, cmp_Or_int_r3, cmp_Or_int_r4, cmp_Or_int_r5, cmp_Or_int_r6, cmp_Or_int_r7, cmp_Or_int_r8, cmp_Or_int_L1, iter, Dt.eval, w1, w2, w3, w4, w5, w6, b0, b1, b2, elt, show (c != 0) = true by simpa using hc]
    · subst ha
      simp [F_cmp_Or_int, cmp_Or_int_K, cmp_Or_int_r0, cmp_Or_int_r1, cmp_Or_int_r2, cmp_Or_int_r3, cmp_Or_int_r4, cmp_Or_int_r5, cmp_Or_int_r6, cmp_Or_int_r7, cmp_Or_int_r8, cmp_Or_int_L1, iter, Dt.eval, w1, w2, w3, w4, w5, w6, b0, b1, b2, elt, show (b != 0) = true by simpa using hb]
      intro h; exact absurd h hb
  · simp [F_cmp_Or_int, cmp_Or_int_K, cmp_Or_int_r0, cmp_Or_int_r1, cmp_Or_int_r2, cmp_Or_int_r3, cmp_Or_int_r4, cmp_Or_int_r5, cmp_Or_int_r6, cmp_Or_int_r7, cmp_Or_int_r8, cmp_Or_int_L1, iter, Dt.eval, w1, w2, w3, w4, w5, w6, b0, b1, b2, elt, show (a != 0) = true by simpa using ha]
    intro h; exact absurd h ha
structure okW (x : M4) : Prop where
  ok : okM x
  n : x.1.natAbs ≤ 4194304
  d : x.2.1 ≤ 4194304
theorem okW.b1 {x : M4} (h : okW x) : i64B x.1 = true := i64B_of (by have := h.n; omega)
theorem okW.b2 {x : M4} (h : okW x) : i64B x.2.1 = true := i64B_of (by have := h.d; have := (ratioChk_zero h.ok).1; omega)
theorem order_eq (d : Nat) (hd : 5 ≤ d) {x y : M4} (hx : okW x) (hy : okW y) : F_meet_order d (x, y, ()) = some (cmpM x y) := by
  have e1 : F_meet_later d ((x.1, x.2.1, ()), (y.1, y.2.1, ()), ()) = some (cmpQ x.1 x.2.1 y.1 y.2.1) := by
    rw [later_eq d _ _ _ _ hx.b1 hx.b2 hy.b1 hy.b2]; unfold cmpR; rw [if_pos ⟨hx.ok, hy.ok⟩]
  have e2 := cmpInt_eq d x.2.2.1 y.2.2.1
  have e3 := cmpInt_eq d x.2.2.2.1 y.2.2.2.1
  simp only [F_meet_order, meet_order_K, meet_order_r0, meet_order_r1, Dt.eval, e1, e2, e3, orInt_eq d hd]
  rfl
theorem sortV_eq (d : Nat) (hd : 5 ≤ d) {xs : List M4} (h : ∀ x ∈ xs, okW x) (hl : xs.length ≤ 1000000) : sortV (τ := Riiii) (F_meet_order d) xs = some (sortL ltM xs) :=
  sortV_gen (τ := Riiii) (S := okW) (lt := ltM) (c := cmpM) h (fun x y hx hy => order_eq d hd hx hy) (fun _ _ => rfl) ltM_irr (fun x y z hx hy hz => ltM_trans hx.ok hy.ok hz.ok) (fun x y z hx hy hz => ltM_neg hx.ok hy.ok hz.ok) (fun x y hx hy h1 h2 => by
    have := ltM_eq hx.ok hy.ok h1 h2
    subst this
    show (x.1 == x.1 && (x.2.1 == x.2.1 && (x.2.2.1 == x.2.2.1 && (x.2.2.2.1 == x.2.2.2.1 && true)))) = true
    simp only [beq_self_eq_true, Bool.and_self]) hl
theorem pt_bd {p : T3} (h : okP p) : 0 ≤ p.1 ∧ p.1 ≤ 65535 ∧ -1048576 ≤ p.2.1 ∧ p.2.1 ≤ 1048576 ∧ -1048576 ≤ p.2.2.1 ∧ p.2.2.1 ≤ 1048576 := pointChk_zero (show pointChk p.1 p.2.1 p.2.2.1 = 0 from h)
theorem meet_eq (d : Nat) {p q : T3} (hp : okP p) (hq : okP q) (hi : p.1 ≠ q.1) : F_course_Meet d ((p.1, p.2.1, p.2.2.1, ()), (q.1, q.2.1, q.2.2.1, ()), ()) =
    some (if p.2.2.1 = q.2.2.1 then (0, 0, 6) else ((mk (p.2.1 - q.2.1) (q.2.2.1 - p.2.2.1)).1, (mk (p.2.1 - q.2.1) (q.2.2.1 - p.2.2.1)).2.1, 0)) := by
  obtain ⟨_, _, a1, a2, a3, a4⟩ := pt_bd hp
  obtain ⟨_, _, b1, b2, b3, b4⟩ := pt_bd hq
  have e1 : F_course_two d ((p.1, p.2.1, p.2.2.1, ()), (q.1, q.2.1, q.2.2.1, ()), ((0 : Int), (1 : Int), ()), ()) = some 0 := by
    rw [F_course_two_eq _ _ (by rfl)]
    exact congrArg some (twoChk_ok ⟨hp, hq, show ratioChk 0 1 = 0 by decide⟩ hi)
  have w1 : IntKind.wrap .i64 (p.2.1 - q.2.1) = p.2.1 - q.2.1 := IntWalk.i64_in _ (by omega)
  have w2 : IntKind.wrap .i64 (q.2.2.1 - p.2.2.1) = q.2.2.1 - p.2.2.1 := IntWalk.i64_in _ (by omega)
  have e2 : F_ratio_Make d ((p.2.1 - q.2.1, ()), (q.2.2.1 - p.2.2.1, ()), ()) = some ((mk (p.2.1 - q.2.1) (q.2.2.1 - p.2.2.1)).1, (mk (p.2.1 - q.2.1) (q.2.2.1 - p.2.2.1)).2.1, (mk (p.2.1 - q.2.1) (q.2.2.1 - p.2.2.1)).2.2) :=
    F_ratio_Make_eq _ _ (by unfold ratio_Make_if; simp only; rw [i64B_of (by omega), i64B_of (by omega)]; rfl)
  simp only [F_course_Meet, course_Meet_K, course_Meet_r0, course_Meet_r1, course_Meet_r2, course_Meet_r3, course_Meet_r4, course_Meet_r5, course_Meet_r6, Dt.eval, e1, show ((0 : Int) != 0) = false from rfl, cond_false]
  by_cases hb : p.2.2.1 = q.2.2.1
  · simp only [hb, beq_self_eq_true, cond_true, if_true]
  · have hb' : (p.2.2.1 == q.2.2.1) = false := by simpa using hb
    have h0 := (mk_ok (n := p.2.1 - q.2.1) (d := q.2.2.1 - p.2.2.1) (by omega) (by omega) (by omega)).1
    simp only [hb', cond_false, hb, if_false, w1, w2, e2, h0]
    rfl
theorem all_eq (d : Nat) (hd : 5 ≤ d) {l : List T3} (h : FldOk l) : F_meet_all d ((l, ()), ()) = some (allM l) := by
  have hlen := pairsL_len l
  have hl4 := Nat.mul_le_mul h.len h.len
  have e1 : F_meet_pairs d ((l, ()), ()) = some l := by simp only [F_meet_pairs, meet_pairs_K, meet_pairs_r0, meet_pairs_r1, Dt.eval]
  have hp : pairsB l = true := by unfold pairsB; rw [Nat.ble_eq]; have := h.len; omega
  have hstep : ∀ (x : T3 × T3) (acc : List M4), (okP x.1 ∧ okP x.2 ∧ x.1.1 ≠ x.2.1) → acc.length ≤ 99999 → step2 (meet_all_A1 d) (meet_all_B1 d) x acc = some (acc ++ (mtP x).toList) := by
    rintro x acc ⟨h1, h2, h3⟩ hacc
    have e2 := meet_eq d h1 h2 h3
    have ha : apB acc.length 1 = true := by unfold apB; rw [Nat.ble_eq]; omega
    unfold step2 meet_all_A1 meet_all_B1 mtP
    simp only [meet_all_r3, meet_all_r4, meet_all_r5, meet_all_r6, meet_all_r7, Dt.eval, meet_all_K, e2, Option.bind_some]
    by_cases hb : x.1.2.2.1 = x.2.2.2.1
    · simp only [hb, if_true, show ((6 : Int) == 0) = false from rfl, cond_false]
      simp
    · simp only [hb, if_false, show ((0 : Int) == 0) = true from rfl, cond_true, List.length_cons, List.length_nil, Nat.zero_add, ha]
      simp
  have e3 := loopF_map hstep (pairsL l) [] (fun x hx => by
    obtain ⟨g1, g2, g3⟩ := pairsL_mem hx h.inc
    exact ⟨h.ok _ g1, h.ok _ g2, by omega⟩) (by simp; omega)
  have e4 := sortV_eq d hd (xs := meetsL l) (fun x hx => ⟨(meets_ok h hx).1, (meets_ok h hx).2.1, (meets_ok h hx).2.2⟩) (by have := meets_len h; omega)
  simp only [F_meet_all, meet_all_K, meet_all_r0, meet_all_r1, meet_all_r2, meet_all_r8, meet_all_r9, Dt.eval, e1, hp, cond_true]
  rw [e3]
  simp only [Option.bind_some, List.nil_append]
  rw [show (pairsL l).filterMap mtP = meetsL l from rfl, e4]
  rfl
end Go.Proofs.YthopjgahedijcaaGreat

namespace Go.Pel
open Go Go.Tx
/-- a meeting is behind a time -/
def gtM (n dd : Int) (x : M4) : Bool := decide (0 < cmpQ x.1 x.2.1 n dd)
theorem gtM_iff (n dd : Int) (x : M4) : gtM n dd x = true ↔ n * x.2.1 < x.1 * dd := by
  unfold gtM cmpQ cmpZ
  rw [decide_eq_true_eq]
  repeat' split
  all_goals omega
theorem gtM_mono {n dd : Int} (hd : 1 ≤ dd) {L : List M4} (hL : ∀ x ∈ L, okM x) (hs : L.Pairwise fun a b => ltM b a = false) {i j : Nat} {x y : M4} (hij : i ≤ j) (hx : L[i]? = some x) (hy : L[j]? = some y) (h : gtM n dd x = true) : gtM n dd y = true := by
  rcases Nat.lt_or_eq_of_le hij with hlt | rfl
  · obtain ⟨hi, rfl⟩ := List.getElem?_eq_some_iff.1 hx
    obtain ⟨hj, rfl⟩ := List.getElem?_eq_some_iff.1 hy
    have hp := ltM_not _ _ ((List.pairwise_iff_getElem.1 hs) i j hi hj hlt)
    have o1 := (ratioChk_zero (hL _ (List.getElem_mem hi))).1
    have o2 := (ratioChk_zero (hL _ (List.getElem_mem hj))).1
    rw [gtM_iff] at h ⊢
    exact q_lt hd o1 o2 h (by omega)
  · rw [hx] at hy; injection hy with hy; subst hy; exact h
/-- how many meetings are not behind a time -/
def idxM (n dd : Int) (L : List M4) : Nat := L.findIdx (gtM n dd)
theorem idxM_only {n dd : Int} {L : List M4} {k : Nat} (hk : k ≤ L.length) (h1 : ∀ j x, j < k → L[j]? = some x → gtM n dd x = false) (h2 : ∀ x, L[k]? = some x → gtM n dd x = true) : idxM n dd L = k := by
  unfold idxM
  rcases Nat.lt_or_eq_of_le hk with hlt | rfl
  · rw [List.findIdx_eq hlt]
    refine ⟨h2 _ (List.getElem?_eq_getElem hlt), fun j hj => ?_⟩
    exact h1 j _ hj (List.getElem?_eq_getElem (by omega))
  · rw [List.findIdx_eq_length]
    intro x hx
    obtain ⟨j, hj, rfl⟩ := List.mem_iff_getElem.1 hx
    exact h1 j _ hj (List.getElem?_eq_getElem hj)
end Go.Pel
namespace Go.Proofs.YthopjgahedijcaaGreat
open Go Go.Tx Go.Pel
theorem behind1_eq (d : Nat) {x : M4} {n dd : Int} (hx : okW x) (hn : i64B n = true) (hd : i64B dd = true) (hr : ratioChk n dd = 0) : F_meet_behind_1 d ((x.1, x.2.1, x.2.2.1, x.2.2.2.1, ()), (n, dd, ()), ()) = some (if gtM n dd x = true then 1 else -1) := by
  have e1 : F_meet_later d ((x.1, x.2.1, ()), (n, dd, ()), ()) = some (cmpQ x.1 x.2.1 n dd) := by
    rw [later_eq d _ _ _ _ hx.b1 hx.b2 hn hd]; unfold cmpR; rw [if_pos ⟨hx.ok, hr⟩]
  simp only [F_meet_behind_1, meet_behind_1_K, meet_behind_1_r0, meet_behind_1_r1, meet_behind_1_r2, meet_behind_1_r3, Dt.eval, e1]
  unfold gtM
  by_cases h : 0 < cmpQ x.1 x.2.1 n dd
  · simp only [h, gt_iff_lt, decide_true, cond_true, if_true]
  · simp only [h, gt_iff_lt, decide_false, cond_false]
    rfl
abbrev bsX : Type := List Diiii × Int × Int × Int × Int × Int
theorem bs_loop (d : Nat) {L : List M4} {n dd : Int} (hL : ∀ x ∈ L, okW x) (hlen : L.length ≤ 4096) (hs : L.Pairwise fun a b => ltM b a = false) (hn : i64B n = true) (hd : i64B dd = true) (hr : ratioChk n dd = 0) : ∀ (f lo hi : Nat), hi - lo < f → lo ≤ hi → hi ≤ L.length → (∀ j x, j < lo → L[j]? = some x → gtM n dd x = false) → (∀ j x, hi ≤ j → L[j]? = some x → gtM n dd x = true) →
    ∃ b, iter (slices_BinarySearchFunc_api_Meeting_api_Meeting_api_Ratio_at_meet_behind_1_L1 d) f ((L, (L.length : Int), (lo : Int), (hi : Int), n, dd) : bsX) = some ((idxM n dd L : Int), b)
  | 0, lo, hi, h, _, _, _, _ => by omega
  | f + 1, lo, hi, h, hle, hhi, h1, h2 => by
    have hD := (ratioChk_zero hr).1
    rw [iter]
    have ih := bs_loop d hL hlen hs hn hd hr f
    revert ih
    generalize iter (slices_BinarySearchFunc_api_Meeting_api_Meeting_api_Ratio_at_meet_behind_1_L1 d) f = self
    intro ih
    unfold slices_BinarySearchFunc_api_Meeting_api_Meeting_api_Ratio_at_meet_behind_1_L1
    simp only [slices_BinarySearchFunc_api_Meeting_api_Meeting_api_Ratio_at_meet_behind_1_r3, slices_BinarySearchFunc_api_Meeting_api_Meeting_api_Ratio_at_meet_behind_1_r4, slices_BinarySearchFunc_api_Meeting_api_Meeting_api_Ratio_at_meet_behind_1_r5, slices_BinarySearchFunc_api_Meeting_api_Meeting_api_Ratio_at_meet_behind_1_r6, slices_BinarySearchFunc_api_Meeting_api_Meeting_api_Ratio_at_meet_behind_1_r7, slices_BinarySearchFunc_api_Meeting_api_Meeting_api_Ratio_at_meet_behind_1_r8, Dt.eval]
    by_cases hlt : lo < hi
    · have c1 : decide ((lo : Int) < (hi : Int)) = true := by rw [decide_eq_true_eq]; omega
      have wm : IntKind.wrap .i64 (shrI .u64 (IntKind.wrap .u64 (IntKind.wrap .i64 ((lo : Int) + (hi : Int)))) 1) = (((lo + hi) / 2 : Nat) : Int) := by
        rw [show IntKind.wrap .i64 ((lo : Int) + (hi : Int)) = (lo : Int) + (hi : Int) from IntWalk.i64_in _ (by omega), show IntKind.wrap .u64 ((lo : Int) + (hi : Int)) = ((lo + hi : Nat) : Int) by rw [IntKind.wrap_u64]; omega]
        have : shrI .u64 ((lo + hi : Nat) : Int) 1 = (((lo + hi) / 2 : Nat) : Int) := by
          unfold shrI
          rw [show (2 : Int) ^ (min (1 : Int).toNat IntKind.u64.bits) = 2 from by decide, Int.fdiv_eq_ediv_of_nonneg _ (by omega)]; omega
        rw [this]; exact IntWalk.i64_in _ (by omega)
      obtain ⟨m, hm⟩ : ∃ m, (lo + hi) / 2 = m := ⟨_, rfl⟩
      rw [hm] at wm
      have hml : m < L.length := by omega
      obtain ⟨x, hx⟩ : ∃ x, L[m]? = some x := ⟨_, List.getElem?_eq_getElem hml⟩
      have hxw := hL x (List.mem_of_getElem? hx)
      have ib : inB (m : Int) L.length = true := inB_iff.2 ⟨by omega, by omega⟩
      have ee : elt ziiii L (m : Int).toNat = x := by unfold elt; rw [Int.toNat_natCast, hx]; rfl
      have e1 := behind1_eq d hxw hn hd hr
      cases hg : gtM n dd x with
      | true =>
        rw [hg, if_pos rfl] at e1
        simp only [c1, cond_true, wm, ib, ee, slices_BinarySearchFunc_api_Meeting_api_Meeting_api_Ratio_at_meet_behind_1_K, e1, show decide ((1 : Int) < 0) = false from rfl, cond_false]
        exact ih lo m (by omega) (by omega) (by omega) h1 fun j y hj hy => gtM_mono hD (fun x hx => (hL x hx).ok) hs hj hx hy hg
      | false =>
        have wm1 : IntKind.wrap .i64 ((m : Int) + 1) = ((m + 1 : Nat) : Int) := by rw [IntWalk.i64_in _ (by omega)]; omega
        rw [hg, if_neg (by decide)] at e1
        simp only [c1, cond_true, wm, ib, ee, slices_BinarySearchFunc_api_Meeting_api_Meeting_api_Ratio_at_meet_behind_1_K, e1, show decide ((-1 : Int) < 0) = true from rfl, wm1, Dt.eval, cond_true]
        refine ih (m + 1) hi (by omega) (by omega) (by omega) (fun j y hj hy => ?_) h2
        cases hgy : gtM n dd y with
        | false => rfl
        | true => rw [gtM_mono hD (fun x hx => (hL x hx).ok) hs (show j ≤ m by omega) hy hx hgy] at hg; cases hg
    · obtain rfl : lo = hi := by omega
      have c1 : decide ((lo : Int) < (lo : Int)) = false := by rw [decide_eq_false_iff_not]; omega
      have hidx : idxM n dd L = lo := idxM_only hhi h1 fun x hx => h2 lo x (Nat.le_refl _) hx
      simp only [c1, cond_false]
      rw [hidx]
      by_cases hll : lo < L.length
      · have c2 : decide ((lo : Int) < (L.length : Int)) = true := by rw [decide_eq_true_eq]; omega
        obtain ⟨x, hx⟩ : ∃ x, L[lo]? = some x := ⟨_, List.getElem?_eq_getElem hll⟩
        have hxw := hL x (List.mem_of_getElem? hx)
        have ib : inB (lo : Int) L.length = true := inB_iff.2 ⟨by omega, by omega⟩
        have ee : elt ziiii L (lo : Int).toNat = x := by unfold elt; rw [Int.toNat_natCast, hx]; rfl
        have e1 := behind1_eq d hxw hn hd hr
        simp only [c2, cond_true, ib, ee, slices_BinarySearchFunc_api_Meeting_api_Meeting_api_Ratio_at_meet_behind_1_K, e1]
        exact ⟨_, rfl⟩
      · have c2 : decide ((lo : Int) < (L.length : Int)) = false := by rw [decide_eq_false_iff_not]; omega
        simp only [c2, cond_false]
        exact ⟨_, rfl⟩
theorem behind_eq (d : Nat) (hf : 5000 ≤ d) {L : List M4} {n dd : Int} (hL : ∀ x ∈ L, okW x) (hlen : L.length ≤ 4096) (hs : L.Pairwise fun a b => ltM b a = false) (hn : i64B n = true) (hd : i64B dd = true) (hr : ratioChk n dd = 0) : F_meet_behind d ((L, ()), (n, dd, ()), ()) = some (idxM n dd L : Int) := by
  obtain ⟨b, hb⟩ := bs_loop d hL hlen hs hn hd hr d 0 L.length (by omega) (by omega) (Nat.le_refl _) (fun j x hj => by omega) (fun j x hj hx => by have := (List.getElem?_eq_some_iff.1 hx).1; omega)
  have e1 : F_slices_BinarySearchFunc_api_Meeting_api_Meeting_api_Ratio_at_meet_behind_1 d ((L, ()), (n, dd, ()), (), ()) = some ((idxM n dd L : Int), b) := by
    simp only [F_slices_BinarySearchFunc_api_Meeting_api_Meeting_api_Ratio_at_meet_behind_1, slices_BinarySearchFunc_api_Meeting_api_Meeting_api_Ratio_at_meet_behind_1_K, slices_BinarySearchFunc_api_Meeting_api_Meeting_api_Ratio_at_meet_behind_1_r0, slices_BinarySearchFunc_api_Meeting_api_Meeting_api_Ratio_at_meet_behind_1_r1, slices_BinarySearchFunc_api_Meeting_api_Meeting_api_Ratio_at_meet_behind_1_r2, Dt.eval]
    exact hb
  simp only [F_meet_behind, meet_behind_K, meet_behind_r0, meet_behind_r1, meet_behind_r2, Dt.eval, e1]
/-- the check of a field and a time -/
def chk1 (l : List T3) (n dd : Int) : Int := if fieldChk (ptsL l) ≠ 0 then fieldChk (ptsL l) else ratioChk n dd
def chk2 (l : List T3) (n dd n' dd' : Int) : Int := if fieldChk (ptsL l) ≠ 0 then fieldChk (ptsL l) else if ratioChk n dd ≠ 0 then ratioChk n dd else if ratioChk n' dd' ≠ 0 then ratioChk n' dd' else if 0 < cmpQ n dd n' dd' then 2 else 0
theorem check0_eq (d : Nat) (hf : 5 ≤ d) (l : List T3) : F_meet_check d ((l, ()), ([], ()), ()) = some (fieldChk (ptsL l)) := by
  obtain ⟨n, rfl⟩ : ∃ n, d = n + 5 := ⟨d - 5, by omega⟩
  have e1 : F_field_Check (n + 5) ((l, ()), ()) = some (fieldChk (ptsL l)) := F_field_Check_eq _ _ rfl
  simp only [F_meet_check, meet_check_K, meet_check_r0, meet_check_r1, meet_check_r2, meet_check_r3, meet_check_r4, Dt.eval, e1]
  by_cases h : fieldChk (ptsL l) = 0
  · rw [h]
    simp [iter, meet_check_L1, meet_check_r5, meet_check_r6, meet_check_r7, meet_check_r8, meet_check_r9, meet_check_r10, meet_check_r11, meet_check_r12, meet_check_r13, Dt.eval]
  · have hb : (fieldChk (ptsL l) != 0) = true := by simpa using h
    simp only [hb, cond_true]
theorem check1_eq (d : Nat) (hf : 5 ≤ d) (l : List T3) (n dd : Int) (hn : i64B n = true) (hd : i64B dd = true) : F_meet_check d ((l, ()), ([(n, dd, ())], ()), ()) = some (chk1 l n dd) := by
  obtain ⟨k, rfl⟩ : ∃ k, d = k + 5 := ⟨d - 5, by omega⟩
  have e1 : F_field_Check (k + 5) ((l, ()), ()) = some (fieldChk (ptsL l)) := F_field_Check_eq _ _ rfl
  have e2 : F_ratio_Check (k + 5) ((n, dd, ()), ()) = some (ratioChk n dd) := F_ratio_Check_eq _ _ (by unfold ratio_Check_if; simp only [hn, hd, Bool.and_self])
  have w1 : IntKind.wrap .i64 (1 : Int) = 1 := by decide
  have b0 : inB 0 1 = true := by decide
  unfold chk1
  simp only [F_meet_check, meet_check_K, meet_check_r0, meet_check_r1, meet_check_r2, meet_check_r3, meet_check_r4, Dt.eval, e1]
  by_cases h : fieldChk (ptsL l) = 0
  · rw [h]
    by_cases h2 : ratioChk n dd = 0
    · simp [iter, meet_check_L1, meet_check_r5, meet_check_r6, meet_check_r7, meet_check_r8, meet_check_r9, meet_check_r10, meet_check_r11, meet_check_r12, meet_check_r13, Dt.eval, meet_check_K, e2, h2, w1, b0, elt]
    · simp [iter, meet_check_L1, meet_check_r5, meet_check_r6, meet_check_r7, meet_check_r8, meet_check_r9, meet_check_r10, meet_check_r11, meet_check_r12, meet_check_r13, Dt.eval, meet_check_K, e2, h2, w1, b0, elt, show (ratioChk n dd != 0) = true by simpa using h2]
  · have hb : (fieldChk (ptsL l) != 0) = true := by simpa using h
    simp only [hb, cond_true, ne_eq, h, not_false_eq_true, if_true]
theorem check2_eq (d : Nat) (hf : 5 ≤ d) (l : List T3) (n dd n' dd' : Int) (hn : i64B n = true) (hd : i64B dd = true) (hn' : i64B n' = true) (hd' : i64B dd' = true) : F_meet_check d ((l, ()), ([(n, dd, ()), (n', dd', ())], ()), ()) = some (chk2 l n dd n' dd') := by
  obtain ⟨k, rfl⟩ : ∃ k, d = k + 5 := ⟨d - 5, by omega⟩
  have e1 : F_field_Check (k + 5) ((l, ()), ()) = some (fieldChk (ptsL l)) := F_field_Check_eq _ _ rfl
  have e2 : F_ratio_Check (k + 5) ((n, dd, ()), ()) = some (ratioChk n dd) := F_ratio_Check_eq _ _ (by unfold ratio_Check_if; simp only [hn, hd, Bool.and_self])
  have e3 : F_ratio_Check (k + 5) ((n', dd', ()), ()) = some (ratioChk n' dd') := F_ratio_Check_eq _ _ (by unfold ratio_Check_if; simp only [hn', hd', Bool.and_self])
  have e4 := later_eq (k + 5) n dd n' dd' hn hd hn' hd'
  have w1 : IntKind.wrap .i64 (1 : Int) = 1 := by decide
  have w2 : IntKind.wrap .i64 (2 : Int) = 2 := by decide
  have b0 : inB 0 2 = true := by decide
  have b1 : inB 1 2 = true := by decide
  unfold chk2
  simp only [F_meet_check, meet_check_K, meet_check_r0, meet_check_r1, meet_check_r2, meet_check_r3, meet_check_r4, Dt.eval, e1]
  by_cases h : fieldChk (ptsL l) = 0
  · rw [h]
    by_cases h2 : ratioChk n dd = 0
    · by_cases h3 : ratioChk n' dd' = 0
      · unfold cmpR at e4
        rw [if_pos ⟨h2, h3⟩] at e4
        by_cases h4 : 0 < cmpQ n dd n' dd'
        · simp [iter, meet_check_L1, meet_check_r5, meet_check_r6, meet_check_r7, meet_check_r8, meet_check_r9, meet_check_r10, meet_check_r11, meet_check_r12, meet_check_r13, Dt.eval, meet_check_K, e2, e3, e4, h2, h3, h4, w1, w2, b0, b1, elt]
        · simp [iter, meet_check_L1, meet_check_r5, meet_check_r6, meet_check_r7, meet_check_r8, meet_check_r9, meet_check_r10, meet_check_r11, meet_check_r12, meet_check_r13, Dt.eval, meet_check_K, e2, e3, e4, h2, h3, h4, w1, w2, b0, b1, elt]
      · simp [iter, meet_check_L1, meet_check_r5, meet_check_r6, meet_check_r7, meet_check_r8, meet_check_r9, meet_check_r10, meet_check_r11, meet_check_r12, meet_check_r13, Dt.eval, meet_check_K, e2, e3, h2, h3, w1, w2, b0, b1, elt, show (ratioChk n' dd' != 0) = true by simpa using h3]
    · simp [iter, meet_check_L1, meet_check_r5, meet_check_r6, meet_check_r7, meet_check_r8, meet_check_r9, meet_check_r10, meet_check_r11, meet_check_r12, meet_check_r13, Dt.eval, meet_check_K, e2, h2, w1, b0, elt, show (ratioChk n dd != 0) = true by simpa using h2]
  · have hb : (fieldChk (ptsL l) != 0) = true := by simpa using h
    simp only [hb, cond_true, ne_eq, h, not_false_eq_true, if_true]
theorem fldOk_of {l : List T3} (h : fieldChk (ptsL l) = 0) : FldOk l := by
  obtain ⟨h1, h2, h3⟩ := fieldChk_zero h
  rw [ptsL_len] at h1
  refine ⟨h1, fun p hp => h2 _ (List.mem_map_of_mem hp), ?_⟩
  rw [List.pairwise_iff_getElem]
  intro i j hi hj hij
  have hg : ∀ k (hk : k < l.length), (ptsL l)[k]? = some (ofP l[k]) := fun k hk => by unfold ptsL; rw [List.getElem?_map, List.getElem?_eq_getElem hk]; rfl
  exact inc_lt h3 hij (hg i hi) (hg j hj)
theorem allM_w {l : List T3} (h : FldOk l) : ∀ x ∈ allM l, okW x := fun x hx => ⟨(allM_ok h hx).1, (allM_ok h hx).2.1, (allM_ok h hx).2.2⟩
/-- meet.Next -/
def nextV (l : List T3) (n dd : Int) : Int × Int × Int × Int × Int := if chk1 l n dd ≠ 0 then (0, 0, 0, 0, chk1 l n dd) else match (allM l)[idxM n dd (allM l)]? with
  | some x => (x.1, x.2.1, x.2.2.1, x.2.2.2.1, 0)
  | none => (0, 0, 0, 0, 6)
theorem next_eq (d : Nat) (hf : 5000 ≤ d) (l : List T3) (n dd : Int) (hn : i64B n = true) (hd : i64B dd = true) : F_meet_Next d ((l, ()), (n, dd, ()), ()) = some (nextV l n dd) := by
  have e1 := check1_eq d (by omega) l n dd hn hd
  unfold nextV
  simp only [F_meet_Next, meet_Next_K, meet_Next_r0, meet_Next_r1, meet_Next_r2, meet_Next_r3, meet_Next_r4, meet_Next_r5, meet_Next_r6, meet_Next_r7, meet_Next_r8, Dt.eval, e1]
  by_cases h : chk1 l n dd = 0
  · have hc := h
    unfold chk1 at hc
    have hf0 : fieldChk (ptsL l) = 0 := by
      by_cases h0 : fieldChk (ptsL l) = 0
      · exact h0
      · rw [if_pos h0] at hc; exact absurd hc h0
    rw [if_neg (by simpa using hf0)] at hc
    have hok := fldOk_of hf0
    have e2 := all_eq d (by omega) hok
    have e3 := behind_eq d hf (allM_w hok) (allM_len hok) (allM_pw hok) hn hd hc
    simp only [h, show ((0 : Int) != 0) = false from rfl, cond_false, Dt.eval, e2, e3, ne_eq, not_true_eq_false, if_false]
    rcases Nat.lt_or_ge (idxM n dd (allM l)) (allM l).length with hlt | hge
    · obtain ⟨x, hx⟩ : ∃ x, (allM l)[idxM n dd (allM l)]? = some x := ⟨_, List.getElem?_eq_getElem hlt⟩
      have c1 : ((idxM n dd (allM l) : Int) == ((allM l).length : Int)) = false := by rw [beq_eq_false_iff_ne]; omega
      have ib : inB (idxM n dd (allM l) : Int) (allM l).length = true := inB_iff.2 ⟨by omega, by omega⟩
      have ee : elt ziiii (allM l) (idxM n dd (allM l) : Int).toNat = x := by unfold elt; rw [Int.toNat_natCast, hx]; rfl
      simp only [c1, cond_false, ib, cond_true, ee, hx]
    · have hle : idxM n dd (allM l) ≤ (allM l).length := List.findIdx_le_length
      have heq : idxM n dd (allM l) = (allM l).length := by omega
      have hx : (allM l)[idxM n dd (allM l)]? = none := List.getElem?_eq_none hge
      have c1 : ((idxM n dd (allM l) : Int) == ((allM l).length : Int)) = true := by rw [beq_iff_eq]; omega
      simp only [c1, cond_true, hx]
  · have hb : (chk1 l n dd != 0) = true := by simpa using h
    simp only [hb, cond_true, ne_eq, h, not_false_eq_true, if_true]
/-- meet.Last -/
def lastV (l : List T3) : Int × Int × Int := if fieldChk (ptsL l) ≠ 0 then (0, 0, fieldChk (ptsL l)) else match (allM l)[(allM l).length - 1]? with
  | some x => (x.1, x.2.1, 0)
  | none => (0, 0, 6)
theorem last_eq (d : Nat) (hf : 5000 ≤ d) (l : List T3) : F_meet_Last d ((l, ()), ()) = some (lastV l) := by
  have e1 := check0_eq d (by omega) l
  unfold lastV
  simp only [F_meet_Last, meet_Last_K, meet_Last_r0, meet_Last_r1, meet_Last_r2, meet_Last_r3, meet_Last_r4, meet_Last_r5, meet_Last_r6, meet_Last_r7, Dt.eval, e1]
  by_cases h : fieldChk (ptsL l) = 0
  · have hok := fldOk_of h
    have e2 := all_eq d (by omega) hok
    have hlen := allM_len hok
    simp only [h, show ((0 : Int) != 0) = false from rfl, cond_false, Dt.eval, e2, ne_eq, not_true_eq_false, if_false]
    rcases Nat.eq_zero_or_pos (allM l).length with h0 | h0
    · have c1 : (((allM l).length : Int) == 0) = true := by rw [beq_iff_eq]; omega
      have hx : (allM l)[(allM l).length - 1]? = none := List.getElem?_eq_none (by omega)
      simp only [c1, cond_true, hx]
    · have c1 : (((allM l).length : Int) == 0) = false := by rw [beq_eq_false_iff_ne]; omega
      have w1 : IntKind.wrap .i64 (((allM l).length : Int) - 1) = (((allM l).length - 1 : Nat) : Int) := by rw [IntWalk.i64_in _ (by omega)]; omega
      obtain ⟨x, hx⟩ : ∃ x, (allM l)[(allM l).length - 1]? = some x := ⟨_, List.getElem?_eq_getElem (by omega)⟩
      have ib : inB (((allM l).length - 1 : Nat) : Int) (allM l).length = true := inB_iff.2 ⟨by omega, by omega⟩
      have ee : elt ziiii (allM l) (((allM l).length - 1 : Nat) : Int).toNat = x := by unfold elt; rw [Int.toNat_natCast, hx]; rfl
      simp only [c1, cond_false, w1, ib, cond_true, ee, hx]
  · have hb : (fieldChk (ptsL l) != 0) = true := by simpa using h
    simp only [hb, cond_true, ne_eq, h, not_false_eq_true, if_true]
end Go.Proofs.YthopjgahedijcaaGreat

namespace Go.Pel
open Go Go.Tx
/-- sorted up to a place -/
def Srt (out : List M4) (i : Nat) : Prop := ∀ a b x y, a < b → b < i → out[a]? = some x → out[b]? = some y → ltM y x = false
/-- .. but for the one at k, which no later one comes before -/
def Near (out : List M4) (i k : Nat) : Prop := ∀ a b x y, a < b → b < i → b ≠ k → out[a]? = some x → out[b]? = some y → ltM y x = false
theorem srt_pw {out : List M4} (h : Srt out out.length) : out.Pairwise fun a b => ltM b a = false := by
  rw [List.pairwise_iff_getElem]
  intro i j hi hj hij
  exact h i j _ _ hij hj (List.getElem?_eq_getElem hi) (List.getElem?_eq_getElem hj)
theorem near_stop {out : List M4} {i k : Nat} (hok : ∀ x ∈ out, okM x) (h : Near out i k) (hk : k = 0 ∨ ∃ x y, out[k]? = some x ∧ out[k - 1]? = some y ∧ ltM x y = false) : Srt out i := by
  intro a b x y hab hbi hx hy
  by_cases hbk : b = k
  · subst hbk
    rcases hk with rfl | ⟨x', y', e1, e2, e3⟩
    · omega
    · rw [hy] at e1; injection e1 with e1; subst e1
      rcases (by omega : a = b - 1 ∨ a < b - 1) with rfl | hlt
      · rw [hx] at e2; injection e2 with e2; subst e2; exact e3
      · have h1 := h a (b - 1) x y' hlt (by omega) (by omega) hx e2
        exact ltM_neg (hok _ (List.mem_of_getElem? hy)) (hok _ (List.mem_of_getElem? e2)) (hok _ (List.mem_of_getElem? hx)) e3 h1
  · exact h a b x y hab hbi hbk hx hy
theorem near_swap {out : List M4} {i k : Nat} (hki : k < i) (hil : i ≤ out.length) (h0 : 0 < k) {x y : M4} (hx : out[k]? = some x) (hy : out[k - 1]? = some y) (hlt : ltM x y = true) (h : Near out i k) : Near ((out.set k y).set (k - 1) x) i (k - 1) := by
  have hg : ∀ j, ((out.set k y).set (k - 1) x)[j]? = if j = k - 1 then some x else if j = k then some y else out[j]? := fun j => by
    rw [List.getElem?_set, List.getElem?_set, List.length_set]
    by_cases h1 : k - 1 = j
    · rw [if_pos h1, if_pos (by omega), if_pos h1.symm]
    · rw [if_neg h1, if_neg (by omega : ¬ j = k - 1)]
      by_cases h2 : k = j
      · rw [if_pos h2, if_pos (by omega), if_pos h2.symm]
      · rw [if_neg h2, if_neg (by omega)]
  intro a b u v hab hbi hb hu hv
  rw [hg] at hu hv
  rw [if_neg hb] at hv
  by_cases hbk : b = k
  · rw [if_pos hbk] at hv; injection hv with hv; subst hv
    by_cases ha : a = k - 1
    · rw [if_pos ha] at hu; injection hu with hu; subst hu
      exact ltM_asymm hlt
    · rw [if_neg ha, if_neg (by omega)] at hu
      exact h a (k - 1) u y (by omega) (by omega) (by omega) hu hy
  · rw [if_neg hbk] at hv
    by_cases ha : a = k - 1
    · rw [if_pos ha] at hu; injection hu with hu; subst hu
      exact h k b x v (by omega) hbi hbk hx hv
    · rw [if_neg ha] at hu
      by_cases ha2 : a = k
      · rw [if_pos ha2] at hu; injection hu with hu; subst hu
        exact h (k - 1) b y v (by omega) hbi hbk hy hv
      · rw [if_neg ha2] at hu
        exact h a b u v hab hbi hbk hu hv
theorem swap_perm {out : List M4} {k : Nat} {x y : M4} (h0 : 0 < k) (hx : out[k]? = some x) (hy : out[k - 1]? = some y) : ((out.set k y).set (k - 1) x).Perm out := by
  obtain ⟨h1, rfl⟩ := List.getElem?_eq_some_iff.1 hx
  obtain ⟨h2, rfl⟩ := List.getElem?_eq_some_iff.1 hy
  exact List.set_set_perm h1 h2
end Go.Pel
namespace Go.Proofs.YthopjgahedijcaaGreat
open Go Go.Tx Go.Pel
theorem wrap_succ {k : Nat} (h : k < 1000000) : IntKind.wrap .i64 ((k : Int) + 1) = ((k + 1 : Nat) : Int) := by rw [IntWalk.i64_in _ (by omega)]; omega
theorem elt_some {α : Type} {z : α} {l : List α} {k : Nat} {x : α} (h : l[k]? = some x) : elt z l (k : Int).toNat = x := by unfold elt; rw [Int.toNat_natCast, h]; rfl
theorem inB_of {k n : Nat} (h : k < n) : inB (k : Int) n = true := inB_iff.2 ⟨by omega, by omega⟩
theorem dec_lt {a b : Nat} (h : a < b) : decide ((a : Int) < (b : Int)) = true := by rw [decide_eq_true_eq]; omega
theorem dec_nlt {a b : Nat} (h : ¬ a < b) : decide ((a : Int) < (b : Int)) = false := by rw [decide_eq_false_iff_not]; omega
theorem drop_of {α : Type} {l : List α} {k : Nat} {x : α} (h : l[k]? = some x) : l.drop k = x :: l.drop (k + 1) := by
  obtain ⟨h1, rfl⟩ := List.getElem?_eq_some_iff.1 h
  exact List.drop_eq_getElem_cons h1
end Go.Proofs.YthopjgahedijcaaGreat

namespace Go.Proofs.YthopjgahedijcaaGreat
open Go Go.Tx Go.Pel
theorem rChk_eq (d : Nat) {n dd : Int} (hn : i64B n = true) (hd : i64B dd = true) : F_ref01_Check d ((n, dd, ()), ()) = some (ratioChk n dd) := F_ref01_Check_eq _ _ (by unfold ref01_Check_if; simp only [hn, hd, Bool.and_self])
theorem rBoth_eq (d : Nat) {n dd n' dd' : Int} (hn : i64B n = true) (hd : i64B dd = true) (hn' : i64B n' = true) (hd' : i64B dd' = true) : F_ref01_Both d ((n, dd, ()), (n', dd', ()), ()) = some (if ratioChk n dd ≠ 0 then ratioChk n dd else ratioChk n' dd') := by
  have e1 := rChk_eq d hn hd
  have e2 := rChk_eq d hn' hd'
  simp only [F_ref01_Both, ref01_Both_K, ref01_Both_r0, ref01_Both_r1, ref01_Both_r2, ref01_Both_r3, Dt.eval, e1, e2]
  by_cases h : ratioChk n dd = 0
  · simp only [h, show ((0 : Int) != 0) = false from rfl, cond_false, ne_eq, not_true_eq_false, if_false]
  · simp only [show (ratioChk n dd != 0) = true by simpa using h, cond_true, ne_eq, h, not_false_eq_true, if_true]
theorem rTimes_eq (d : Nat) (l : List T3) {n dd n' dd' : Int} (hn : i64B n = true) (hd : i64B dd = true) (hn' : i64B n' = true) (hd' : i64B dd' = true) : F_ref04_Times d ((l, ()), (n, dd, ()), (n', dd', ()), ()) = some (chk2 l n dd n' dd') := by
  have e1 : F_ref03_Check d ((l, ()), ()) = some (fieldChk (ptsL l)) := F_ref03_Check_eq _ _ rfl
  have e2 := rBoth_eq d hn hd hn' hd'
  have e3 := rCompare_eq d n dd n' dd' hn hd hn' hd'
  unfold chk2
  simp only [F_ref04_Times, ref04_Times_K, ref04_Times_r0, ref04_Times_r1, ref04_Times_r2, ref04_Times_r3, ref04_Times_r4, ref04_Times_r5, ref04_Times_r6, ref04_Times_r7, ref04_Times_r8, ref04_Times_r9, Dt.eval, e1, e2, e3]
  by_cases h : fieldChk (ptsL l) = 0
  · simp only [h, show ((0 : Int) != 0) = false from rfl, cond_false, ne_eq, not_true_eq_false, if_false]
    by_cases h2 : ratioChk n dd = 0
    · simp only [h2, not_true_eq_false, if_false]
      by_cases h3 : ratioChk n' dd' = 0
      · simp only [h3, show ((0 : Int) != 0) = false from rfl, cond_false, not_true_eq_false, if_false]
        by_cases h4 : 0 < cmpQ n dd n' dd'
        · simp only [gt_iff_lt, h4, decide_true, cond_true, if_true]
        · simp only [gt_iff_lt, h4, decide_false, cond_false, if_false]
      · simp only [show (ratioChk n' dd' != 0) = true by simpa using h3, cond_true, h3, not_false_eq_true, if_true]
    · simp only [show (ratioChk n dd != 0) = true by simpa using h2, cond_true, h2, not_false_eq_true, if_true]
  · simp only [show (fieldChk (ptsL l) != 0) = true by simpa using h, cond_true, ne_eq, h, not_false_eq_true, if_true]
theorem chk2_same (l : List T3) (n dd : Int) : chk2 l n dd n dd = chk1 l n dd := by
  unfold chk2 chk1
  have h0 : ¬ 0 < cmpQ n dd n dd := by unfold cmpQ; rw [cmpZ_eq rfl]; omega
  rw [if_neg h0]
  by_cases h : ratioChk n dd = 0
  · simp only [h, ne_eq, not_true_eq_false, if_false]
  · simp only [h, ne_eq, not_false_eq_true, if_true]
theorem gt_cmp {x : M4} {n dd : Int} : decide (cmpQ x.1 x.2.1 n dd > 0) = gtM n dd x := rfl
theorem i64B_in {a : Int} (h : -9223372036854775808 ≤ a ∧ a ≤ 9223372036854775807) : i64B a = true := by
  unfold i64B; simp only [Bool.and_eq_true, decide_eq_true_eq]; exact h
/-- a field that the laws pass over -/
def greatB (l : List T3) : Bool := bif great (ptsL l).length then true else ((l.length : Int) == (64 : Int))
theorem great_eq (d : Nat) (l : List T3) : F_law04_great d ((l, ()), ()) = some (greatB l) := by
  have e1 : F_ref03_Great d ((l, ()), ()) = some (great (ptsL l).length) := F_ref03_Great_eq _ _ rfl
  unfold greatB
  simp only [F_law04_great, law04_great_K, law04_great_r0, law04_great_r1, Dt.eval, e1]
  cases great (ptsL l).length <;> rfl
end Go.Proofs.YthopjgahedijcaaGreat

namespace Go.Pel
open Go Go.Tx
theorem filter_up {α : Type} {p : α → Bool} : ∀ {L : List α}, (L.Pairwise fun a b => p a = true → p b = true) → L.filter p = L.drop (L.findIdx p)
  | [], _ => rfl
  | x :: xs, h => by
    obtain ⟨h1, h2⟩ := List.pairwise_cons.1 h
    rw [List.findIdx_cons]
    cases hp : p x with
    | true =>
      rw [cond_true, List.drop_zero, List.filter_eq_self]
      intro y hy
      rcases List.mem_cons.1 hy with rfl | hy
      · exact hp
      · exact h1 y hy hp
    | false =>
      rw [cond_false, List.drop_succ_cons, List.filter_cons_of_neg (by rw [hp]; decide), filter_up h2]
theorem filter_dn {α : Type} {p : α → Bool} : ∀ {L : List α}, (L.Pairwise fun a b => p a = true → p b = true) → L.filter (fun x => !p x) = L.take (L.findIdx p)
  | [], _ => rfl
  | x :: xs, h => by
    obtain ⟨h1, h2⟩ := List.pairwise_cons.1 h
    rw [List.findIdx_cons]
    cases hp : p x with
    | true =>
      rw [cond_true, List.take_zero, List.filter_eq_nil_iff]
      intro y hy
      rcases List.mem_cons.1 hy with rfl | hy
      · rw [hp]; decide
      · rw [h1 y hy hp]; decide
    | false =>
      rw [cond_false, List.take_succ_cons, List.filter_cons_of_pos (by rw [hp]; decide), filter_dn h2]
theorem gtM_pw {n dd : Int} (hd : 1 ≤ dd) {L : List M4} (hL : ∀ x ∈ L, okM x) (hs : L.Pairwise fun a b => ltM b a = false) : L.Pairwise fun a b => gtM n dd a = true → gtM n dd b = true := by
  rw [List.pairwise_iff_getElem] at hs ⊢
  intro i j hi hj hij h
  exact gtM_mono hd hL (List.pairwise_iff_getElem.2 hs) (Nat.le_of_lt hij) (List.getElem?_eq_getElem hi) (List.getElem?_eq_getElem hj) h
/-- not before in time -/
def leQ (n dd n' dd' : Int) : Prop := n * dd' ≤ n' * dd
theorem leQ_iff (n dd n' dd' : Int) : leQ n dd n' dd' ↔ ¬ 0 < cmpQ n dd n' dd' := by
  unfold leQ cmpQ cmpZ
  repeat' split
  all_goals omega
theorem gtM_le {n dd n' dd' : Int} (hd : 1 ≤ dd) (hd' : 1 ≤ dd') (hle : leQ n dd n' dd') {x : M4} (hx : okM x) (h : gtM n' dd' x = true) : gtM n dd x = true := by
  have o1 := (ratioChk_zero hx).1
  rw [gtM_iff] at h ⊢
  exact q_lt' hd hd' o1 hle h
theorem idxM_le {n dd n' dd' : Int} (hd : 1 ≤ dd) (hd' : 1 ≤ dd') (hle : leQ n dd n' dd') {L : List M4} (hL : ∀ x ∈ L, okM x) : idxM n dd L ≤ idxM n' dd' L := by
  unfold idxM
  induction L with
  | nil => exact Nat.le_refl _
  | cons x xs ih =>
    have := ih fun y hy => hL y (List.mem_cons_of_mem _ hy)
    rw [List.findIdx_cons, List.findIdx_cons]
    cases h1 : gtM n dd x with
    | true => rw [cond_true]; omega
    | false =>
      cases h2 : gtM n' dd' x with
      | true => rw [gtM_le hd hd' hle (hL x (List.mem_cons_self ..)) h2] at h1; cases h1
      | false => rw [cond_false, cond_false]; omega
theorem idxM_len (n dd : Int) (L : List M4) : idxM n dd L ≤ L.length := List.findIdx_le_length
/-- the meetings of a list that come between two times -/
def cutM (L : List M4) (n dd n' dd' : Int) : List M4 := (L.take (idxM n' dd' L)).drop (idxM n dd L)
def inM (n dd n' dd' : Int) (x : M4) : Bool := gtM n dd x && !gtM n' dd' x
theorem cutM_eq {n dd n' dd' : Int} (hd : 1 ≤ dd) (hd' : 1 ≤ dd') (hle : leQ n dd n' dd') {L : List M4} (hL : ∀ x ∈ L, okM x) (hs : L.Pairwise fun a b => ltM b a = false) : L.filter (inM n dd n' dd') = cutM L n dd n' dd' := by
  have e1 : L.filter (inM n dd n' dd') = (L.filter fun x => !gtM n' dd' x).filter (gtM n dd) := by rw [List.filter_filter]; rfl
  have e2 := filter_dn (gtM_pw (n := n') (dd := dd') hd' hL hs)
  have hp : (L.take (idxM n' dd' L)).Pairwise fun a b => gtM n dd a = true → gtM n dd b = true := (gtM_pw hd hL hs).sublist (List.take_sublist _ _)
  have h3 := idxM_le hd hd' hle hL
  rw [e1, e2]
  unfold cutM
  rw [show L.findIdx (gtM n' dd') = idxM n' dd' L from rfl, filter_up hp, List.findIdx_take]
  congr 1
  unfold idxM at h3 ⊢
  omega
theorem cutM_len (L : List M4) (n dd n' dd' : Int) : (cutM L n dd n' dd').length ≤ L.length := by unfold cutM; rw [List.length_drop, List.length_take]; omega
end Go.Pel
namespace Go.Proofs.YthopjgahedijcaaGreat
open Go Go.Tx Go.Pel
theorem chk2_zero {l : List T3} {n dd n' dd' : Int} (h : chk2 l n dd n' dd' = 0) : FldOk l ∧ ratioChk n dd = 0 ∧ ratioChk n' dd' = 0 ∧ leQ n dd n' dd' := by
  unfold chk2 at h
  by_cases h1 : fieldChk (ptsL l) = 0
  · rw [if_neg (by simpa using h1)] at h
    by_cases h2 : ratioChk n dd = 0
    · rw [if_neg (by simpa using h2)] at h
      by_cases h3 : ratioChk n' dd' = 0
      · rw [if_neg (by simpa using h3)] at h
        by_cases h4 : 0 < cmpQ n dd n' dd'
        · rw [if_pos h4] at h; cases h
        · exact ⟨fldOk_of h1, h2, h3, (leQ_iff ..).2 h4⟩
      · rw [if_pos h3] at h; exact absurd h h3
    · rw [if_pos h2] at h; exact absurd h h2
  · rw [if_pos h1] at h; exact absurd h h1
/-- meet.All -/
def allV (l : List T3) (n dd n' dd' : Int) : List M4 × Int := if chk2 l n dd n' dd' ≠ 0 then ([], chk2 l n dd n' dd') else (cutM (allM l) n dd n' dd', 0)
theorem mAll_eq (d : Nat) (hf : 5000 ≤ d) (l : List T3) {n dd n' dd' : Int} (hn : i64B n = true) (hd : i64B dd = true) (hn' : i64B n' = true) (hd' : i64B dd' = true) : F_meet_All d ((l, ()), (n, dd, ()), (n', dd', ()), ()) = some (allV l n dd n' dd') := by
  have e1 := check2_eq d (by omega) l n dd n' dd' hn hd hn' hd'
  unfold allV
  simp only [F_meet_All, meet_All_K, meet_All_r0, meet_All_r1, meet_All_r2, meet_All_r3, meet_All_r4, meet_All_r5, meet_All_r6, Dt.eval, e1]
  by_cases h : chk2 l n dd n' dd' = 0
  · obtain ⟨hok, h2, h3, h4⟩ := chk2_zero h
    have e2 := all_eq d (by omega) hok
    have e3 := behind_eq d hf (allM_w hok) (allM_len hok) (allM_pw hok) hn hd h2
    have e4 := behind_eq d hf (allM_w hok) (allM_len hok) (allM_pw hok) hn' hd' h3
    have hle := idxM_le (ratioChk_zero h2).1 (ratioChk_zero h3).1 h4 fun x hx => (allM_w hok x hx).ok
    have hln := idxM_len n' dd' (allM l)
    have hc : cut3B (idxM n dd (allM l) : Int) (idxM n' dd' (allM l) : Int) (idxM n' dd' (allM l) : Int) (allM l).length = true := by
      unfold cut3B; simp only [Bool.and_eq_true, decide_eq_true_eq]; omega
    simp only [h, show ((0 : Int) != 0) = false from rfl, cond_false, Dt.eval, e2, e3, e4, ne_eq, not_true_eq_false, if_false, hc, cond_true, Int.toNat_natCast]
    rfl
  · have hb : (chk2 l n dd n' dd' != 0) = true := by simpa using h
    simp only [hb, cond_true, ne_eq, h, not_false_eq_true, if_true]
theorem mCount_eq (d : Nat) (hf : 5000 ≤ d) (l : List T3) {n dd n' dd' : Int} (hn : i64B n = true) (hd : i64B dd = true) (hn' : i64B n' = true) (hd' : i64B dd' = true) : F_meet_Count d ((l, ()), (n, dd, ()), (n', dd', ()), ()) = some (((allV l n dd n' dd').1.length : Int), (allV l n dd n' dd').2) := by
  have e1 := mAll_eq d hf l hn hd hn' hd'
  simp only [F_meet_Count, meet_Count_K, meet_Count_r0, meet_Count_r1, meet_Count_r2, Dt.eval, e1]
theorem le_gt {x : M4} {n dd : Int} : decide (cmpQ x.1 x.2.1 n dd ≤ 0) = !gtM n dd x := by
  unfold gtM
  rw [← decide_not]
  congr 1
  exact propext (by omega)
theorem same_loop (d : Nat) {L : List M4} (hlen : L.length ≤ 4096) : ∀ (f i : Nat), L.length - i < f → i ≤ L.length → iter (ref04_Same_L1 d) f (L, L, (i : Int)) = some true
  | 0, i, hf, _ => by omega
  | f + 1, i, hf, hi => by
    have ih := same_loop d hlen f (i + 1)
    rw [iter]
    revert ih
    generalize iter (ref04_Same_L1 d) f = self
    intro ih
    unfold ref04_Same_L1
    simp only [ref04_Same_r4, ref04_Same_r5, ref04_Same_r6, ref04_Same_r7, ref04_Same_r8, Dt.eval]
    by_cases hlt : i < L.length
    · simp only [dec_lt hlt, cond_true, inB_of hlt, beq_self_eq_true, Bool.and_self, Bool.not_true, cond_false, wrap_succ (show i < 1000000 by omega)]
      exact ih (by omega) (by omega)
    · simp only [dec_nlt hlt, cond_false]
theorem rSame_refl (d : Nat) (hf : 5000 ≤ d) {L : List M4} (hlen : L.length ≤ 4096) : F_ref04_Same d ((L, ()), (L, ()), ()) = some true := by
  have e := same_loop d hlen d 0 (by omega) (by omega)
  simp only [F_ref04_Same, ref04_Same_K, ref04_Same_r0, ref04_Same_r1, ref04_Same_r2, ref04_Same_r3, Dt.eval, bne_self_eq_false, cond_false]
  exact e
end Go.Proofs.YthopjgahedijcaaGreat

namespace Go.Tx
theorem loopF_cnt {α Z : Type} {step : α → Z → Option Z} {g : α → Bool} {P : α → Prop} {st : Nat → Z} (hs : ∀ a k, P a → k ≤ 99999 → step a (st k) = some (st (if g a = true then k + 1 else k))) : ∀ (l : List α) (k : Nat), (∀ a ∈ l, P a) → k + l.length ≤ 99999 → loopF step l (st k) = some (st (k + l.countP g))
  | [], k, _, _ => by simp [loopF]
  | a :: l, k, h, hl => by
    rw [List.length_cons] at hl
    rw [loopF, hs a k (h a (List.mem_cons_self ..)) (by omega)]
    show loopF step l (st (if g a = true then k + 1 else k)) = _
    rw [loopF_cnt hs l _ (fun b hb => h b (List.mem_cons_of_mem _ hb)) (by split <;> omega), List.countP_cons]
    refine congrArg some (congrArg st ?_)
    split <;> omega
end Go.Tx
namespace Go.Proofs.YthopjgahedijcaaGreat
open Go Go.Tx Go.Pel
theorem mAhead_eq (d : Nat) {p q : T3} (hp : okP p) (hq : okP q) (hi : p.1 ≠ q.1) {n dd : Int} (hn : i64B n = true) (hd : i64B dd = true) (hr : ratioChk n dd = 0) : F_course_Ahead d ((p.1, p.2.1, p.2.2.1, ()), (q.1, q.2.1, q.2.2.1, ()), (n, dd, ()), ()) = some (leads (ofP p) (ofP q) n dd, 0) := by
  rw [F_course_Ahead_eq _ _ (by unfold course_Ahead_if; simp only [hn, hd, Bool.and_self])]
  have h : twoChk (ofP p) (ofP q) n dd = 0 := twoChk_ok ⟨hp, hq, hr⟩ hi
  show some ((aheadV (ofP p) (ofP q) n dd).1, (aheadV (ofP p) (ofP q) n dd).2) = _
  unfold aheadV
  rw [if_pos h]
/-- a pair is swapped between two times -/
def swP (n dd n' dd' : Int) (x : T3 × T3) : Bool := !(leads (ofP x.1) (ofP x.2) n dd == leads (ofP x.1) (ofP x.2) n' dd')
/-- meet.Swaps -/
def swapsV (l : List T3) (n dd n' dd' : Int) : Int × Int := if chk2 l n dd n' dd' ≠ 0 then (0, chk2 l n dd n' dd') else (((pairsL l).countP (swP n dd n' dd') : Nat), 0)
theorem great_len {l : List T3} (h : greatB l = false) : l.length ≤ 70 := by
  unfold greatB great at h
  rw [ptsL_len] at h
  simp only [cond_eq_ite, Bool.or_eq_true, Bool.and_eq_true, decide_eq_true_eq] at h
  by_cases hl : l.length ≤ 70
  · exact hl
  · rw [if_pos (by omega)] at h; cases h
theorem toPs_pts (l : List T3) : toPs (ptsL l) = l := by
  unfold toPs ptsL
  rw [List.map_map]
  exact List.map_id _
end Go.Proofs.YthopjgahedijcaaGreat

namespace Go.Pel
open Go Go.Tx
theorem idxM_gt {n dd : Int} {L : List M4} {x : M4} (h : L[idxM n dd L]? = some x) : gtM n dd x = true := by
  obtain ⟨h1, rfl⟩ := List.getElem?_eq_some_iff.1 h
  exact List.findIdx_getElem (p := gtM n dd) (w := h1)
theorem leQ_trans {a b c d1 d2 d3 : Int} (h1 : 1 ≤ d1) (h2 : 1 ≤ d2) (h3 : 1 ≤ d3) (h : leQ a d1 b d2) (k : leQ b d2 c d3) : leQ a d1 c d3 := q_le h1 h2 h3 h k
theorem cut_parts {α : Type} {L : List α} {f m t : Nat} (h1 : f ≤ m) (h2 : m ≤ t) (h3 : t ≤ L.length) : ([] ++ (L.take m).drop f) ++ (L.take t).drop m = (L.take t).drop f := by
  have e : L.take t = L.take m ++ (L.take t).drop m := by
    conv => lhs; rw [← List.take_append_drop m (L.take t)]
    rw [List.take_take, Nat.min_eq_left h2]
  rw [List.nil_append]
  conv => rhs; rw [e]
  rw [List.drop_append_of_le_length (by rw [List.length_take]; omega)]
theorem cut_get {α : Type} {L : List α} {f t : Nat} (h1 : f < t) : ((L.take t).drop f)[0]? = L[f]? := by
  rw [List.getElem?_drop, Nat.add_zero, List.getElem?_take, if_pos h1]
end Go.Pel
namespace Go.Proofs.YthopjgahedijcaaGreat
open Go Go.Tx Go.Pel
/-- a field and two times that the laws look at -/
def fitB (l : List T3) (n dd n' dd' : Int) : Bool := !greatB l && (chk2 l n dd n' dd' == 0)
theorem fit_eq (d : Nat) (l : List T3) {n dd n' dd' : Int} (hn : i64B n = true) (hd : i64B dd = true) (hn' : i64B n' = true) (hd' : i64B dd' = true) : F_law04_fit d ((l, ()), (n, dd, ()), (n', dd', ()), ()) = some (fitB l n dd n' dd') := by
  have e1 := great_eq d l
  have e2 := rTimes_eq d l hn hd hn' hd'
  unfold fitB
  simp only [F_law04_fit, law04_fit_K, law04_fit_r0, law04_fit_r1, Dt.eval, e1]
  cases greatB l with
  | true => rfl
  | false => simp only [Bool.not_false, cond_true, e2, Bool.true_and, Dt.eval]
theorem fitB_iff {l : List T3} {n dd n' dd' : Int} (h : fitB l n dd n' dd' = true) : greatB l = false ∧ chk2 l n dd n' dd' = 0 := by
  unfold fitB at h
  simpa using h
theorem alive04 : F_law04_alive 5000 () = some true := by kernel_rfl
theorem chk2_of {l : List T3} {n dd n' dd' : Int} (h : FldOk l) (h0 : fieldChk (ptsL l) = 0) (h1 : ratioChk n dd = 0) (h2 : ratioChk n' dd' = 0) (h3 : leQ n dd n' dd') : chk2 l n dd n' dd' = 0 := by
  unfold chk2
  rw [if_neg (by simpa using h0), if_neg (by simpa using h1), if_neg (by simpa using h2), if_neg ((leQ_iff ..).1 h3)]
theorem chk2_fld {l : List T3} {n dd n' dd' : Int} (h : chk2 l n dd n' dd' = 0) : fieldChk (ptsL l) = 0 := by
  unfold chk2 at h
  by_cases h1 : fieldChk (ptsL l) = 0
  · exact h1
  · rw [if_pos h1] at h; exact absurd h h1
end Go.Proofs.YthopjgahedijcaaGreat

namespace Go.Pel
open Go Go.Tx
/-- a test of a value that may be missing -/
def anyO {β : Type} (P : β → Bool) : Option β → Bool
  | some m => P m
  | none => false
theorem mk_mul {n d : Int} (hd : d ≠ 0) (hn : n.natAbs ≤ 4194304) (hd2 : d.natAbs ≤ 4194304) : (mk n d).1 * d = n * (mk n d).2.1 := by
  have hg := mk_gcd_pos (n := n) hd
  rw [mk_some hd]
  have b1 : n.natAbs / Nat.gcd n.natAbs d.natAbs ≤ n.natAbs := Nat.div_le_self _ _
  have b2 : d.natAbs / Nat.gcd n.natAbs d.natAbs ≤ d.natAbs := Nat.div_le_self _ _
  have e1 : Nat.gcd n.natAbs d.natAbs * (n.natAbs / Nat.gcd n.natAbs d.natAbs) = n.natAbs := Nat.mul_div_cancel' (Nat.gcd_dvd_left _ _)
  have e2 : Nat.gcd n.natAbs d.natAbs * (d.natAbs / Nat.gcd n.natAbs d.natAbs) = d.natAbs := Nat.mul_div_cancel' (Nat.gcd_dvd_right _ _)
  have e3 := (fun (G A B N D : Nat) (k1 : G * A = N) (k2 : G * B = D) => (by subst k1 k2; rw [Nat.mul_left_comm, Nat.mul_assoc] : A * D = N * B)) _ _ _ _ _ e1 e2
  generalize n.natAbs / Nat.gcd n.natAbs d.natAbs = A at *
  generalize d.natAbs / Nat.gcd n.natAbs d.natAbs = B at *
  have e4 : (A : Int) * (d.natAbs : Int) = (n.natAbs : Int) * (B : Int) := by exact_mod_cast e3
  have hno : ¬ (0 < 0 ∨ 9223372036854775807 < A ∨ 0 < 0 ∨ 9223372036854775807 < B) := by omega
  by_cases h1 : n < 0 <;> by_cases h2 : d < 0
  · rw [show (decide (n < 0) != decide (d < 0)) = false by simp [h1, h2], bld_pos hno]
    rw [show (d.natAbs : Int) = -d by omega, show (n.natAbs : Int) = -n by omega, Int.mul_neg, Int.neg_mul] at e4
    show (A : Int) * d = n * (B : Int)
    omega
  · rw [show (decide (n < 0) != decide (d < 0)) = true by simp [h1, h2], bld_neg hno]
    rw [show (d.natAbs : Int) = d by omega, show (n.natAbs : Int) = -n by omega, Int.neg_mul] at e4
    show -(A : Int) * d = n * (B : Int)
    rw [Int.neg_mul]; omega
  · rw [show (decide (n < 0) != decide (d < 0)) = true by simp [h1, h2], bld_neg hno]
    rw [show (d.natAbs : Int) = -d by omega, show (n.natAbs : Int) = n by omega, Int.mul_neg] at e4
    show -(A : Int) * d = n * (B : Int)
    rw [Int.neg_mul]; omega
  · rw [show (decide (n < 0) != decide (d < 0)) = false by simp [h1, h2], bld_pos hno]
    rw [show (d.natAbs : Int) = d by omega, show (n.natAbs : Int) = n by omega] at e4
    exact e4
theorem sg_pos {F D B X : Int} (hD : 0 < D) (hB : 0 < B) (h : F * D = B * X) : (0 < F ↔ 0 < X) ∧ (F = 0 ↔ X = 0) := by
  have f : (0 < F ∧ 0 < F * D) ∨ (F = 0 ∧ F * D = 0) ∨ (F < 0 ∧ F * D < 0) := by
    rcases (by omega : 0 < F ∨ F = 0 ∨ F < 0) with k | k | k
    · exact .inl ⟨k, Int.mul_pos k hD⟩
    · exact .inr (.inl ⟨k, by rw [k, Int.zero_mul]⟩)
    · exact .inr (.inr ⟨k, Int.mul_neg_of_neg_of_pos k hD⟩)
  have g : (0 < X ∧ 0 < B * X) ∨ (X = 0 ∧ B * X = 0) ∨ (X < 0 ∧ B * X < 0) := by
    rcases (by omega : 0 < X ∨ X = 0 ∨ X < 0) with k | k | k
    · exact .inl ⟨k, Int.mul_pos hB k⟩
    · exact .inr (.inl ⟨k, by rw [k, Int.mul_zero]⟩)
    · exact .inr (.inr ⟨k, Int.mul_neg_of_pos_of_neg hB k⟩)
  generalize F * D = U at *
  generalize B * X = V at *
  omega
theorem sg_neg {F D B X : Int} (hD : 0 < D) (hB : B < 0) (h : F * D = B * X) : (0 < F ↔ X < 0) ∧ (F = 0 ↔ X = 0) := by
  have := sg_pos (F := F) (B := -B) (X := -X) hD (by omega) (by rw [Int.neg_mul_neg]; exact h)
  omega
theorem leads_sg {p q : Pt} {n d : Int} : leads p q n d = true ↔ 0 < farD p q n d ∨ (farD p q n d = 0 ∧ (q.b < p.b ∨ (p.b = q.b ∧ p.id < q.id))) := by
  unfold leads
  by_cases h : farD p q n d = 0
  · rw [if_neg (by omega)]
    by_cases hb : p.b = q.b
    · rw [if_neg (by omega), decide_eq_true_eq]; omega
    · rw [if_pos hb, decide_eq_true_eq]; omega
  · rw [if_pos h, decide_eq_true_eq]; omega
theorem pt_bd' {p : T3} (h : okP p) : 0 ≤ p.1 ∧ p.1 ≤ 65535 ∧ -1048576 ≤ p.2.1 ∧ p.2.1 ≤ 1048576 ∧ -1048576 ≤ p.2.2.1 ∧ p.2.2.1 ≤ 1048576 := pointChk_zero (show pointChk p.1 p.2.1 p.2.2.1 = 0 from h)
/-- a meeting is a time at which both are at the same place -/
theorem mtP_eq {x : T3 × T3} (hp : okP x.1) (hq : okP x.2) {m : M4} (h : mtP x = some m) : x.1.2.2.1 ≠ x.2.2.2.1 ∧ okM m ∧ m.1.natAbs ≤ 4194304 ∧ m.2.1 ≤ 4194304 ∧ m.2.2.1 = x.1.1 ∧ m.2.2.2.1 = x.2.1 ∧ (x.1.2.1 - x.2.2.1) * m.2.1 + (x.1.2.2.1 - x.2.2.2.1) * m.1 = 0 := by
  obtain ⟨_, _, a1, a2, a3, a4⟩ := pt_bd' hp
  obtain ⟨_, _, b1, b2, b3, b4⟩ := pt_bd' hq
  unfold mtP at h
  by_cases hb : x.1.2.2.1 = x.2.2.2.1
  · rw [if_pos hb] at h; cases h
  · rw [if_neg hb] at h
    injection h with h
    subst h
    obtain ⟨_, h2, h3, h4⟩ := mk_ok (n := x.1.2.1 - x.2.2.1) (d := x.2.2.2.1 - x.1.2.2.1) (by omega) (by omega) (by omega)
    have h5 := mk_mul (n := x.1.2.1 - x.2.2.1) (d := x.2.2.2.1 - x.1.2.2.1) (by omega) (by omega) (by omega)
    refine ⟨hb, h2, h3, h4, rfl, rfl, ?_⟩
    show (x.1.2.1 - x.2.2.1) * (mk (x.1.2.1 - x.2.2.1) (x.2.2.2.1 - x.1.2.2.1)).2.1 + (x.1.2.2.1 - x.2.2.2.1) * (mk (x.1.2.1 - x.2.2.1) (x.2.2.2.1 - x.1.2.2.1)).1 = 0
    rw [← h5, Int.mul_comm (x.1.2.2.1 - x.2.2.2.1), ← Int.mul_add, show x.2.2.2.1 - x.1.2.2.1 + (x.1.2.2.1 - x.2.2.2.1) = 0 by omega, Int.mul_zero]
theorem leads_mt {x : T3 × T3} (hp : okP x.1) (hq : okP x.2) {m : M4} (h : mtP x = some m) {n dd : Int} : leads (ofP x.1) (ofP x.2) n dd = (if x.2.2.2.1 < x.1.2.2.1 then !gtM n dd m else gtM n dd m) := by
  obtain ⟨hb, hm, _, _, _, _, e⟩ := mtP_eq hp hq h
  have hD := (ratioChk_zero hm).1
  have key : farD (ofP x.1) (ofP x.2) n dd * m.2.1 = (x.1.2.2.1 - x.2.2.2.1) * (n * m.2.1 - m.1 * dd) := by
    show ((x.1.2.1 - x.2.2.1) * dd + (x.1.2.2.1 - x.2.2.2.1) * n) * m.2.1 = _
    rw [Int.add_mul, Int.mul_sub, Int.mul_right_comm (x.1.2.1 - x.2.2.1), show (x.1.2.1 - x.2.2.1) * m.2.1 = -((x.1.2.2.1 - x.2.2.2.1) * m.1) by omega, Int.neg_mul, Int.mul_assoc, Int.mul_assoc]
    omega
  have hg := gtM_iff n dd m
  have hl := leads_sg (p := ofP x.1) (q := ofP x.2) (n := n) (d := dd)
  have hbb : (ofP x.2).b < (ofP x.1).b ↔ x.2.2.2.1 < x.1.2.2.1 := Iff.rfl
  have hbe : (ofP x.1).b = (ofP x.2).b ↔ x.1.2.2.1 = x.2.2.2.1 := Iff.rfl
  by_cases hlt : x.2.2.2.1 < x.1.2.2.1
  · obtain ⟨s1, s2⟩ := sg_pos (by omega : 0 < m.2.1) (by omega : 0 < x.1.2.2.1 - x.2.2.2.1) key
    rw [if_pos hlt]
    cases h1 : gtM n dd m with
    | true =>
      rw [h1] at hg
      have := hg.1 rfl
      cases h2 : leads (ofP x.1) (ofP x.2) n dd with
      | false => rfl
      | true => rw [h2] at hl; have := hl.1 rfl; omega
    | false =>
      rw [h1] at hg
      have : ¬ n * m.2.1 < m.1 * dd := fun k => by cases hg.2 k
      exact hl.2 (by omega)
  · obtain ⟨s1, s2⟩ := sg_neg (by omega : 0 < m.2.1) (by omega : x.1.2.2.1 - x.2.2.2.1 < 0) key
    rw [if_neg hlt]
    cases h1 : gtM n dd m with
    | true =>
      rw [h1] at hg
      have := hg.1 rfl
      exact hl.2 (by omega)
    | false =>
      rw [h1] at hg
      have : ¬ n * m.2.1 < m.1 * dd := fun k => by cases hg.2 k
      cases h2 : leads (ofP x.1) (ofP x.2) n dd with
      | false => rfl
      | true => rw [h2] at hl; have := hl.1 rfl; omega
theorem leads_same {p q : T3} (hb : p.2.2.1 = q.2.2.1) {n dd n' dd' : Int} (hd : 1 ≤ dd) (hd' : 1 ≤ dd') : leads (ofP p) (ofP q) n dd = leads (ofP p) (ofP q) n' dd' := by
  have f : ∀ {n d : Int}, 1 ≤ d → (0 < farD (ofP p) (ofP q) n d ↔ 0 < p.2.1 - q.2.1) ∧ (farD (ofP p) (ofP q) n d = 0 ↔ p.2.1 - q.2.1 = 0) := fun {n d} h => by
    have e : farD (ofP p) (ofP q) n d = (p.2.1 - q.2.1) * d := by
      show (p.2.1 - q.2.1) * d + (p.2.2.1 - q.2.2.1) * n = _
      rw [hb, Int.sub_self, Int.zero_mul, Int.add_zero]
    have := sg_pos (F := p.2.1 - q.2.1) (D := d) (B := 1) (X := farD (ofP p) (ofP q) n d) (by omega) (by omega) (by rw [e, Int.one_mul])
    omega
  obtain ⟨f1, f2⟩ := f (n := n) hd
  obtain ⟨g1, g2⟩ := f (n := n') hd'
  rw [Bool.eq_iff_iff, leads_sg, leads_sg]
  have hbb : (ofP p).b = (ofP q).b := hb
  omega
/-- a pair is swapped between two times if it meets between them -/
theorem swP_eq {x : T3 × T3} (hp : okP x.1) (hq : okP x.2) {n dd n' dd' : Int} (hd : 1 ≤ dd) (hd' : 1 ≤ dd') (hle : leQ n dd n' dd') : (!(leads (ofP x.1) (ofP x.2) n dd == leads (ofP x.1) (ofP x.2) n' dd')) = anyO (inM n dd n' dd') (mtP x) := by
  cases h : mtP x with
  | none =>
    have hb : x.1.2.2.1 = x.2.2.2.1 := by
      unfold mtP at h
      by_cases hb : x.1.2.2.1 = x.2.2.2.1
      · exact hb
      · rw [if_neg hb] at h; cases h
    rw [leads_same hb hd hd', beq_self_eq_true]; rfl
  | some m =>
    have hm := (mtP_eq hp hq h).2.1
    rw [leads_mt hp hq h, leads_mt hp hq h]
    show _ = (gtM n dd m && !gtM n' dd' m)
    have hi : gtM n' dd' m = true → gtM n dd m = true := gtM_le hd hd' hle hm
    by_cases hlt : x.2.2.2.1 < x.1.2.2.1
    · rw [if_pos hlt, if_pos hlt]
      cases h1 : gtM n dd m <;> cases h2 : gtM n' dd' m
      · rfl
      · rw [hi h2] at h1; cases h1
      · rfl
      · rfl
    · rw [if_neg hlt, if_neg hlt]
      cases h1 : gtM n dd m <;> cases h2 : gtM n' dd' m
      · rfl
      · rw [hi h2] at h1; cases h1
      · rfl
      · rfl
theorem countP_fm {α β : Type} {f : α → Option β} {P : β → Bool} : ∀ l : List α, (l.filterMap f).countP P = l.countP (fun x => anyO P (f x))
  | [] => rfl
  | a :: l => by
    rw [List.filterMap_cons, List.countP_cons, ← countP_fm l]
    cases h : f a with
    | none => simp [anyO]
    | some b => rw [List.countP_cons]; rfl
theorem pairsL_idx {α : Type} : ∀ {l : List α} {x : α × α}, x ∈ pairsL l → ∃ i j : Nat, i < j ∧ l[i]? = some x.1 ∧ l[j]? = some x.2
  | [], x, h => by cases h
  | p :: r, x, h => by
    rw [pairsL, List.mem_append, List.mem_map] at h
    rcases h with ⟨q, hq, rfl⟩ | h
    · obtain ⟨j, hj, rfl⟩ := List.mem_iff_getElem.1 hq
      exact ⟨0, j + 1, by omega, rfl, by simp⟩
    · obtain ⟨i, j, h1, h2, h3⟩ := pairsL_idx h
      exact ⟨i + 1, j + 1, by omega, by simpa using h2, by simpa using h3⟩
theorem pairsL_ids : ∀ {l : List T3}, (l.Pairwise fun p q => p.1 < q.1) → (pairsL l).Pairwise fun x y => x.1.1 ≠ y.1.1 ∨ x.2.1 ≠ y.2.1
  | [], _ => List.Pairwise.nil
  | p :: r, h => by
    obtain ⟨h1, h2⟩ := List.pairwise_cons.1 h
    rw [pairsL, List.pairwise_append]
    refine ⟨?_, pairsL_ids h2, ?_⟩
    · rw [List.pairwise_map]
      exact h2.imp fun {a b} hab => .inr (by show a.1 ≠ b.1; omega)
    · intro a ha b hb
      obtain ⟨q, hq, rfl⟩ := List.mem_map.1 ha
      have := h1 _ (pairsL_mem hb h2).1
      exact .inl (by show p.1 ≠ b.1.1; omega)
theorem allM_strict {l : List T3} (h : FldOk l) : (allM l).Pairwise fun a b => ltM a b = true := by
  have hn : (meetsL l).Pairwise fun a b => a ≠ b := by
    unfold meetsL
    rw [List.pairwise_filterMap]
    refine ((pairsL_ids h.inc).imp_of_mem fun {a b} ha hb hab => ?_)
    intro m hm m' hm' heq
    subst heq
    obtain ⟨g1, g2, _⟩ := pairsL_mem ha h.inc
    obtain ⟨k1, k2, _⟩ := pairsL_mem hb h.inc
    obtain ⟨_, _, _, _, i1, i2, _⟩ := mtP_eq (h.ok _ g1) (h.ok _ g2) hm
    obtain ⟨_, _, _, _, j1, j2, _⟩ := mtP_eq (h.ok _ k1) (h.ok _ k2) hm'
    omega
  have hn2 : (allM l).Pairwise fun a b => a ≠ b := ((allM_perm l).pairwise_iff (R := fun a b => a ≠ b) (fun {a b} h => Ne.symm h)).2 hn
  refine (List.Pairwise.and_mem.1 ((allM_pw h).and hn2)).imp fun {a b} ⟨ha, hb, h1, h2⟩ => ?_
  cases hab : ltM a b with
  | true => rfl
  | false => exact absurd (ltM_eq (allM_ok h ha).1 (allM_ok h hb).1 hab h1) h2
theorem allM_from {l : List T3} (h : FldOk l) {m : M4} (hm : m ∈ allM l) : ∃ (i j : Nat) (p q : T3), i < j ∧ l[i]? = some p ∧ l[j]? = some q ∧ mtP (p, q) = some m := by
  have := (allM_perm l).mem_iff.1 hm
  unfold meetsL at this
  obtain ⟨x, hx, hxm⟩ := List.mem_filterMap.1 this
  obtain ⟨i, j, h1, h2, h3⟩ := pairsL_idx hx
  exact ⟨i, j, x.1, x.2, h1, h2, h3, hxm⟩
theorem cutM_mem {L : List M4} {n dd n' dd' : Int} (hd : 1 ≤ dd) (hd' : 1 ≤ dd') (hle : leQ n dd n' dd') (hL : ∀ x ∈ L, okM x) (hs : L.Pairwise fun a b => ltM b a = false) {x : M4} (hx : x ∈ cutM L n dd n' dd') : x ∈ L ∧ gtM n dd x = true ∧ gtM n' dd' x = false := by
  rw [← cutM_eq hd hd' hle hL hs, List.mem_filter] at hx
  unfold inM at hx
  simpa using hx
end Go.Pel
namespace Go.Proofs.YthopjgahedijcaaGreat
open Go Go.Tx Go.Pel
theorem swaps_count {l : List T3} (h : FldOk l) {n dd n' dd' : Int} (hd : 1 ≤ dd) (hd' : 1 ≤ dd') (hle : leQ n dd n' dd') : (pairsL l).countP (swP n dd n' dd') = (cutM (allM l) n dd n' dd').length := by
  rw [← cutM_eq hd hd' hle (fun x hx => (allM_ok h hx).1) (allM_pw h), ← List.countP_eq_length_filter, (allM_perm l).countP_eq]
  unfold meetsL
  rw [countP_fm]
  refine List.countP_congr fun x hx => ?_
  obtain ⟨g1, g2, _⟩ := pairsL_mem hx h.inc
  exact Bool.eq_iff_iff.1 (swP_eq (h.ok _ g1) (h.ok _ g2) hd hd' hle)
end Go.Proofs.YthopjgahedijcaaGreat

namespace Go.Pel
open Go Go.Tx
theorem leads_self (p : Pt) (n d : Int) : leads p p n d = false := by
  cases h : leads p p n d with
  | false => rfl
  | true =>
    have := leads_sg.1 h
    have e : farD p p n d = 0 := by unfold farD; rw [Int.sub_self, Int.sub_self, Int.zero_mul, Int.zero_mul]; rfl
    omega
theorem leads_asym {p q : Pt} {n d : Int} (hi : p.id ≠ q.id) : leads q p n d = !leads p q n d := by
  have e : farD q p n d = -farD p q n d := by
    unfold farD
    rw [show q.a - p.a = -(p.a - q.a) by omega, show q.b - p.b = -(p.b - q.b) by omega, Int.neg_mul, Int.neg_mul]
    omega
  have h1 := leads_sg (p := p) (q := q) (n := n) (d := d)
  have h2 := leads_sg (p := q) (q := p) (n := n) (d := d)
  cases k1 : leads p q n d <;> cases k2 : leads q p n d
  · rw [k1] at h1; rw [k2] at h2
    have a1 : ¬ (0 < farD p q n d ∨ (farD p q n d = 0 ∧ (q.b < p.b ∨ (p.b = q.b ∧ p.id < q.id)))) := fun k => by cases h1.2 k
    have a2 : ¬ (0 < farD q p n d ∨ (farD q p n d = 0 ∧ (p.b < q.b ∨ (q.b = p.b ∧ q.id < p.id)))) := fun k => by cases h2.2 k
    omega
  · rfl
  · rfl
  · have a1 := h1.1 k1
    have a2 := h2.1 k2
    omega
theorem pairsL_of {α : Type} : ∀ {l : List α} {i j : Nat} {p q : α}, i < j → l[i]? = some p → l[j]? = some q → (p, q) ∈ pairsL l
  | [], i, j, p, q, _, h, _ => by simp at h
  | x :: r, 0, j + 1, p, q, _, h1, h2 => by
    rw [pairsL, List.mem_append, List.mem_map]
    simp only [List.getElem?_cons_zero, Option.some.injEq] at h1
    rw [List.getElem?_cons_succ] at h2
    exact .inl ⟨q, List.mem_of_getElem? h2, by rw [h1]⟩
  | x :: r, i + 1, j + 1, p, q, h, h1, h2 => by
    rw [pairsL, List.mem_append]
    rw [List.getElem?_cons_succ] at h1 h2
    exact .inr (pairsL_of (by omega) h1 h2)
theorem mtP_mem {l : List T3} {i j : Nat} {p q : T3} (h : i < j) (hp : l[i]? = some p) (hq : l[j]? = some q) {m : M4} (hm : mtP (p, q) = some m) : m ∈ allM l := by
  rw [(allM_perm l).mem_iff]
  unfold meetsL
  exact List.mem_filterMap.2 ⟨_, pairsL_of h hp hq, hm⟩
/-- no meeting is behind a time -/
def Past (l : List T3) (n dd : Int) : Prop := ∀ m ∈ allM l, gtM n dd m = false
theorem leads_past1 {l : List T3} (h : FldOk l) {i j : Nat} {p q : T3} (hij : i < j) (hp : l[i]? = some p) (hq : l[j]? = some q) {n dd n' dd' : Int} (hd : 1 ≤ dd) (hd' : 1 ≤ dd') (h1 : Past l n dd) (h2 : Past l n' dd') : leads (ofP p) (ofP q) n dd = leads (ofP p) (ofP q) n' dd' := by
  have hpo := h.ok p (List.mem_of_getElem? hp)
  have hqo := h.ok q (List.mem_of_getElem? hq)
  cases hm : mtP (p, q) with
  | none =>
    refine leads_same ?_ hd hd'
    unfold mtP at hm
    by_cases hb : p.2.2.1 = q.2.2.1
    · exact hb
    · simp only [hb, if_false] at hm; cases hm
  | some m =>
    have k1 := leads_mt (x := (p, q)) hpo hqo hm (n := n) (dd := dd)
    have k2 := leads_mt (x := (p, q)) hpo hqo hm (n := n') (dd := dd')
    have hmem := mtP_mem hij hp hq hm
    rw [h1 m hmem] at k1
    rw [h2 m hmem] at k2
    exact k1.trans k2.symm
theorem ids_ne {l : List T3} (h : FldOk l) {i j : Nat} {p q : T3} (hij : i < j) (hp : l[i]? = some p) (hq : l[j]? = some q) : p.1 < q.1 := by
  obtain ⟨h1, rfl⟩ := List.getElem?_eq_some_iff.1 hp
  obtain ⟨h2, rfl⟩ := List.getElem?_eq_some_iff.1 hq
  exact (List.pairwise_iff_getElem.1 h.inc) i j h1 h2 hij
theorem leads_past {l : List T3} (h : FldOk l) {p q : T3} (hp : p ∈ l) (hq : q ∈ l) {n dd n' dd' : Int} (hd : 1 ≤ dd) (hd' : 1 ≤ dd') (h1 : Past l n dd) (h2 : Past l n' dd') : leads (ofP p) (ofP q) n dd = leads (ofP p) (ofP q) n' dd' := by
  obtain ⟨i, hi⟩ := List.mem_iff_getElem?.1 hp
  obtain ⟨j, hj⟩ := List.mem_iff_getElem?.1 hq
  rcases (by omega : i < j ∨ i = j ∨ j < i) with k | k | k
  · exact leads_past1 h k hi hj hd hd' h1 h2
  · subst k
    rw [hi] at hj; injection hj with hj; subst hj
    rw [leads_self, leads_self]
  · have hne : (ofP q).id ≠ (ofP p).id := by have := ids_ne h k hj hi; show q.1 ≠ p.1; omega
    rw [leads_asym hne, leads_asym hne, leads_past1 h k hj hi hd hd' h1 h2]
/-- behind the last meeting the faster ones are ahead -/
theorem fast_past {l : List T3} (h : FldOk l) {p q : T3} (hp : p ∈ l) (hq : q ∈ l) {n dd : Int} (h1 : Past l n dd) (hl : leads (ofP q) (ofP p) n dd = false) : ¬ p.2.2.1 < q.2.2.1 := by
  intro hlt
  obtain ⟨i, hi⟩ := List.mem_iff_getElem?.1 hp
  obtain ⟨j, hj⟩ := List.mem_iff_getElem?.1 hq
  rcases (by omega : i < j ∨ i = j ∨ j < i) with k | k | k
  · cases hm : mtP (p, q) with
    | none => unfold mtP at hm; simp only [show ¬ p.2.2.1 = q.2.2.1 by omega, if_false] at hm; cases hm
    | some m =>
      have k1 := leads_mt (x := (p, q)) (h.ok p hp) (h.ok q hq) hm (n := n) (dd := dd)
      rw [h1 m (mtP_mem k hi hj hm)] at k1
      simp only [show ¬ q.2.2.1 < p.2.2.1 by omega, if_false] at k1
      have hne : (ofP p).id ≠ (ofP q).id := by have := ids_ne h k hi hj; show p.1 ≠ q.1; omega
      rw [leads_asym hne, k1] at hl; cases hl
  · subst k
    rw [hi] at hj; injection hj with hj; subst hj
    omega
  · cases hm : mtP (q, p) with
    | none => unfold mtP at hm; simp only [show ¬ q.2.2.1 = p.2.2.1 by omega, if_false] at hm; cases hm
    | some m =>
      have k1 := leads_mt (x := (q, p)) (h.ok q hq) (h.ok p hp) hm (n := n) (dd := dd)
      rw [h1 m (mtP_mem k hj hi hm)] at k1
      simp only [show p.2.2.1 < q.2.2.1 from hlt, if_true] at k1
      rw [k1] at hl; cases hl
theorem pts_mem {l : List T3} {P : Pt} (h : P ∈ ptsL l) : ∃ p ∈ l, ofP p = P := List.mem_map.1 h
theorem ord_past {l : List T3} (h : FldOk l) {n dd n' dd' : Int} (hd : 1 ≤ dd) (hd' : 1 ≤ dd') (h1 : Past l n dd) (h2 : Past l n' dd') : ordI n dd (ptsL l) = ordI n' dd' (ptsL l) := by
  unfold ordI
  refine sortL_congr fun a ha b hb => ?_
  obtain ⟨p, hp, rfl⟩ := pts_mem ha
  obtain ⟨q, hq, rfl⟩ := pts_mem hb
  exact leads_past h hp hq hd hd' h1 h2
theorem find_in {l : List T3} (h : FldOk l) (h0 : fieldChk (ptsL l) = 0) {p : T3} (hp : p ∈ l) : fieldFind (ptsL l) p.1 = (ofP p, 0) := by
  have hb : hasB (ptsL l) p.1 = true := by
    unfold hasB
    rw [List.any_eq_true]
    exact ⟨ofP p, List.mem_map_of_mem hp, decide_eq_true rfl⟩
  obtain ⟨_, P, h1, h2⟩ := atI_low (fieldChk_zero h0).2.2 hb
  unfold fieldFind
  rw [if_neg (by simpa using h0), if_pos hb, List.getD_eq_getElem?_getD, h1]
  unfold ptsL at h1
  rw [List.getElem?_map] at h1
  cases hq : l[lowB (List.map ofP l) p.1]? with
  | none => rw [hq] at h1; cases h1
  | some q =>
    rw [hq] at h1
    injection h1 with h1
    subst h1
    obtain ⟨i, hi⟩ := List.mem_iff_getElem?.1 hp
    have h2 : q.1 = p.1 := h2
    rcases (by omega : i < lowB (List.map ofP l) p.1 ∨ i = lowB (List.map ofP l) p.1 ∨ lowB (List.map ofP l) p.1 < i) with k | k | k
    · have := ids_ne h k hi hq; omega
    · rw [← k, hi] at hq; injection hq with hq; subst hq; rfl
    · have := ids_ne h k hq hi; omega
theorem past_last {l : List T3} {x : M4} (hs : (allM l).Pairwise fun a b => ltM b a = false) (hx : (allM l)[(allM l).length - 1]? = some x) : Past l x.1 x.2.1 := by
  intro y hy
  obtain ⟨i, hi, rfl⟩ := List.mem_iff_getElem.1 hy
  obtain ⟨hl, rfl⟩ := List.getElem?_eq_some_iff.1 hx
  cases hg : gtM ((allM l)[(allM l).length - 1]).1 ((allM l)[(allM l).length - 1]).2.1 (allM l)[i] with
  | false => rfl
  | true =>
    rw [gtM_iff] at hg
    rcases (by omega : i < (allM l).length - 1 ∨ i = (allM l).length - 1) with k | k
    · have := ltM_not _ _ ((List.pairwise_iff_getElem.1 hs) i ((allM l).length - 1) hi hl k)
      omega
    · subst k; omega
end Go.Pel
namespace Go.Proofs.YthopjgahedijcaaGreat
open Go Go.Tx Go.Pel
theorem order_at (d : Nat) {l : List T3} (hl : l.length ≤ 64) (h0 : fieldChk (ptsL l) = 0) {n dd : Int} (hn : i64B n = true) (hd : i64B dd = true) (hr : ratioChk n dd = 0) : F_field_Order d ((l, ()), (n, dd, ()), ()) = some (unI ((ordI n dd (ptsL l)).map Pt.id), 0) := by
  rw [F_field_Order_eq _ _ (by unfold field_Order_if; simp only [hn, hd, Bool.and_self, Bool.true_and, decide_eq_true_eq]; rw [ptsL_len]; omega)]
  have e : fieldOrderI (ptsL l) n dd = ((ordI n dd (ptsL l)).map Pt.id, 0) := by unfold fieldOrderI; rw [if_neg (by simpa using h0), if_neg (by simpa using hr)]
  show some (unI (fieldOrderI (ptsL l) n dd).1, (fieldOrderI (ptsL l) n dd).2) = _
  rw [e]
theorem find_at (d : Nat) {l : List T3} (h : FldOk l) (h0 : fieldChk (ptsL l) = 0) {p : T3} (hp : p ∈ l) : F_field_Find d ((l, ()), (p.1, ()), ()) = some (p.1, p.2.1, p.2.2.1, 0) := by
  rw [F_field_Find_eq _ _ rfl]
  show some ((fieldFind (ptsL l) p.1).1.id, (fieldFind (ptsL l) p.1).1.a, (fieldFind (ptsL l) p.1).1.b, (fieldFind (ptsL l) p.1).2) = _
  rw [find_in h h0 hp]
  rfl
theorem last1_loop (d : Nat) (ea : F_law04_alive d () = some true) {l : List T3} (hlen : l.length ≤ 64) (hb : ∀ (i : Nat) (p q : T3), l[0]? = some q → l[i]? = some p → p.2.2.1 = q.2.2.1) : ∀ (f i : Nat), l.length - i < f → iter (law04_MeetLast_L1 d) f ((6 : Int), (i : Int), l) = some true
  | 0, i, hf => by omega
  | f + 1, i, hf => by
    have ih := last1_loop d ea hlen hb f (i + 1)
    rw [iter]
    revert ih
    generalize iter (law04_MeetLast_L1 d) f = self
    intro ih
    unfold law04_MeetLast_L1
    by_cases hlt : i < l.length
    · obtain ⟨p, hp⟩ : ∃ p, l[i]? = some p := ⟨_, List.getElem?_eq_getElem hlt⟩
      obtain ⟨q, hq⟩ : ∃ q, l[0]? = some q := ⟨_, List.getElem?_eq_getElem (by omega)⟩
      have e := hb i p q hq hp
      simp only [law04_MeetLast_r6, law04_MeetLast_r7, law04_MeetLast_r8, law04_MeetLast_r9, law04_MeetLast_r10, Dt.eval, law04_MeetLast_K, dec_lt hlt, cond_true, inB_of hlt, show inB (0 : Int) l.length = true from inB_of (k := 0) (by omega), elt_some hp, show elt ziii l (0 : Int).toNat = q from elt_some (k := 0) hq, e, bne_self_eq_false, cond_false, wrap_succ (show i < 1000000 by omega)]
      exact ih (by omega)
    · simp only [law04_MeetLast_r6, law04_MeetLast_r7, law04_MeetLast_r8, law04_MeetLast_r9, law04_MeetLast_r10, Dt.eval, law04_MeetLast_K, dec_nlt hlt, cond_false, show ((6 : Int) == 6) = true from rfl, cond_true, ea]
theorem last2_loop (d : Nat) (ea : F_law04_alive d () = some true) {l : List T3} (h : FldOk l) (h0 : fieldChk (ptsL l) = 0) {n dd : Int} (hP : Past l n dd) : ∀ (f i : Nat), l.length - i < f → 1 ≤ i → iter (law04_MeetLast_L2 d) f ((i : Int), l, unI ((ordI n dd (ptsL l)).map Pt.id)) = some true
  | 0, i, hf, _ => by omega
  | f + 1, i, hf, hi => by
    have ih := last2_loop d ea h h0 hP f (i + 1)
    have hlen : (unI ((ordI n dd (ptsL l)).map Pt.id)).length = l.length := by rw [unI_len, List.length_map, (ordI_perm n dd (ptsL l)).length_eq, ptsL_len]
    have hol : (ordI n dd (ptsL l)).length = l.length := by rw [(ordI_perm n dd (ptsL l)).length_eq, ptsL_len]
    have hmem : ∀ P ∈ ordI n dd (ptsL l), P ∈ ptsL l := fun P hP => (ordI_perm n dd (ptsL l)).mem_iff.1 hP
    have hpw := ordI_pw n dd (ptsL l)
    have hget : ∀ k : Nat, (unI ((ordI n dd (ptsL l)).map Pt.id))[k]? = ((ordI n dd (ptsL l))[k]?).map (fun P => (P.id, ())) := fun k => by
      unfold unI; rw [List.getElem?_map, List.getElem?_map, Option.map_map]; rfl
    generalize unI ((ordI n dd (ptsL l)).map Pt.id) = ids at *
    generalize ordI n dd (ptsL l) = O at *
    have hl := h.len
    rw [iter]
    revert ih
    generalize iter (law04_MeetLast_L2 d) f = self
    intro ih
    unfold law04_MeetLast_L2
    by_cases hlt : i < ids.length
    · obtain ⟨P, hP1⟩ : ∃ P, O[i - 1]? = some P := ⟨_, List.getElem?_eq_getElem (by omega)⟩
      obtain ⟨Q, hQ1⟩ : ∃ Q, O[i]? = some Q := ⟨_, List.getElem?_eq_getElem (by omega)⟩
      obtain ⟨p, hp, rfl⟩ := pts_mem (hmem P (List.mem_of_getElem? hP1))
      obtain ⟨q, hq, rfl⟩ := pts_mem (hmem Q (List.mem_of_getElem? hQ1))
      have g1 : ids[i - 1]? = some (p.1, ()) := by rw [hget, hP1]; rfl
      have g2 : ids[i]? = some (q.1, ()) := by rw [hget, hQ1]; rfl
      have hlead : leads (ofP q) (ofP p) n dd = false := by
        obtain ⟨k1, k2⟩ := List.getElem?_eq_some_iff.1 hP1
        obtain ⟨k3, k4⟩ := List.getElem?_eq_some_iff.1 hQ1
        have := (List.pairwise_iff_getElem.1 hpw) (i - 1) i k1 k3 (by omega)
        rw [k2, k4] at this
        exact this
      have hb := fast_past h hp hq hP hlead
      have wk : IntKind.wrap .i64 ((i : Int) - 1) = ((i - 1 : Nat) : Int) := by rw [IntWalk.i64_in _ (by omega)]; omega
      have e1 := find_at d h h0 hp
      have e2 := find_at d h h0 hq
      have b0 : ((0 : Int) != 0) = false := rfl
      simp only [law04_MeetLast_r24, law04_MeetLast_r25, law04_MeetLast_r26, law04_MeetLast_r27, law04_MeetLast_r28, law04_MeetLast_r29, law04_MeetLast_r30, Dt.eval, law04_MeetLast_K, dec_lt hlt, cond_true, wk, inB_of (show i - 1 < ids.length by omega), inB_of hlt, elt_some g1, elt_some g2, e1, e2, b0, cond_false, show decide (p.2.2.1 < q.2.2.1) = false from decide_eq_false hb, wrap_succ (show i < 1000000 by omega)]
      exact ih (by omega) (by omega)
    · simp only [law04_MeetLast_r24, law04_MeetLast_r25, law04_MeetLast_r26, law04_MeetLast_r27, law04_MeetLast_r28, law04_MeetLast_r29, law04_MeetLast_r30, Dt.eval, law04_MeetLast_K, dec_nlt hlt, cond_false, ea]
theorem mlast_plain (d : Nat) (hf : 5000 ≤ d) (ea : F_law04_alive d () = some true) (l : List T3) (n dd : Int) (hn : i64B n = true) (hd : i64B dd = true) : F_law04_MeetLast d ((l, ()), (n, dd, ()), ()) = some true := by
  have f1 := fit_eq d l hn hd hn hd
  simp only [F_law04_MeetLast, law04_MeetLast_K, law04_MeetLast_r0, law04_MeetLast_r1, Dt.eval, f1]
  cases hf1 : fitB l n dd n dd with
  | false => simp only [Bool.not_false, cond_true, Dt.eval, law04_MeetLast_r2, ea]
  | true =>
    obtain ⟨hg, hc⟩ := fitB_iff hf1
    obtain ⟨hok, k0, _, _⟩ := chk2_zero hc
    have h0 := chk2_fld hc
    have o0 := (ratioChk_zero k0).1
    have e1 := last_eq d hf l
    have hlen := allM_len hok
    have hl64 := hok.len
    have b0 : ((0 : Int) != 0) = false := rfl
    unfold lastV at e1
    rw [if_neg (by simpa using h0)] at e1
    cases hx : (allM l)[(allM l).length - 1]? with
    | none =>
      rw [hx] at e1
      have hz : (allM l).length = 0 := by
        rcases Nat.eq_zero_or_pos (allM l).length with k | k
        · exact k
        · rw [List.getElem?_eq_getElem (by omega)] at hx; cases hx
      have e2 := last1_loop d ea hl64 (fun i p q hq hp => by
        rcases Nat.eq_zero_or_pos i with k | k
        · subst k; rw [hq] at hp; injection hp with hp; subst hp; rfl
        · cases hm : mtP (q, p) with
          | none =>
            unfold mtP at hm
            by_cases hb : q.2.2.1 = p.2.2.1
            · exact hb.symm
            · simp only [hb, if_false] at hm; cases hm
          | some m =>
            have := List.length_pos_of_mem (mtP_mem k hq hp hm)
            omega) d 1 (by omega)
      simp only [Bool.not_true, cond_false, law04_MeetLast_r3, law04_MeetLast_r4, law04_MeetLast_r5, Dt.eval, law04_MeetLast_K, e1, show ((6 : Int) != 0) = true from rfl, cond_true]
      exact e2
    | some x =>
      rw [hx] at e1
      have hxm := List.mem_of_getElem? hx
      have hxw := allM_w hok x hxm
      have hxn := hxw.n
      have hD := (ratioChk_zero hxw.ok).1
      have hpx := past_last (allM_pw hok) hx
      have e2 := rChk_eq d (n := x.1) (dd := x.2.1) hxw.b1 hxw.b2
      rw [show ratioChk x.1 x.2.1 = 0 from hxw.ok] at e2
      have e3 : F_law04_at d ((9223372036854775807, ()), ()) = some (9223372036854775807, 1) := by simp only [F_law04_at, law04_at_K, law04_at_r0, law04_at_r1, Dt.eval]
      have km : ratioChk 9223372036854775807 1 = 0 := by decide
      have e4 := mCount_eq d hf l (n := x.1) (dd := x.2.1) (n' := 9223372036854775807) (dd' := 1) hxw.b1 hxw.b2 rfl rfl
      have hle : leQ x.1 x.2.1 9223372036854775807 1 := by unfold leQ; omega
      have hcut : cutM (allM l) x.1 x.2.1 9223372036854775807 1 = [] := by
        rw [← cutM_eq hD (by omega) hle (fun y hy => (allM_w hok y hy).ok) (allM_pw hok), List.filter_eq_nil_iff]
        intro y hy
        unfold inM
        rw [hpx y hy, Bool.false_and]
        decide
      have v4 : allV l x.1 x.2.1 9223372036854775807 1 = ([], 0) := by
        unfold allV
        rw [if_neg (by simpa using chk2_of hok h0 hxw.ok km hle), hcut]
      rw [v4] at e4
      have e5 := next_eq d hf l x.1 x.2.1 hxw.b1 hxw.b2
      have v5 : nextV l x.1 x.2.1 = (0, 0, 0, 0, 6) := by
        unfold nextV
        have c1 : chk1 l x.1 x.2.1 = 0 := by unfold chk1; rw [if_neg (by simpa using h0)]; exact hxw.ok
        have hi : idxM x.1 x.2.1 (allM l) = (allM l).length := List.findIdx_eq_length.2 hpx
        rw [if_neg (by simpa using c1), hi, List.getElem?_eq_none (Nat.le_refl _)]
      rw [v5] at e5
      have e6 := rCompare_eq d n dd x.1 x.2.1 hn hd hxw.b1 hxw.b2
      simp only [Bool.not_true, cond_false, law04_MeetLast_r3, law04_MeetLast_r4, law04_MeetLast_r11, law04_MeetLast_r12, law04_MeetLast_r13, law04_MeetLast_r14, law04_MeetLast_r15, law04_MeetLast_r16, law04_MeetLast_r17, law04_MeetLast_r18, law04_MeetLast_r19, law04_MeetLast_r20, law04_MeetLast_r21, law04_MeetLast_r22, law04_MeetLast_r23, Dt.eval, law04_MeetLast_K, e1, e2, e3, e4, e5, e6, b0, cond_true, List.length_nil, show (((0 : Nat) : Int) != 0) = false from rfl, show ((6 : Int) != 6) = false from rfl, cond_false]
      by_cases hlt : cmpQ n dd x.1 x.2.1 < 0
      · simp only [decide_eq_true hlt, cond_true, ea, Dt.eval]
      · have hpt : Past l n dd := fun y hy => by
          cases hgy : gtM n dd y with
          | false => rfl
          | true =>
            have hle2 : leQ x.1 x.2.1 n dd := by
              unfold leQ
              unfold cmpQ cmpZ at hlt
              by_cases h1 : n * x.2.1 < x.1 * dd
              · rw [if_pos h1] at hlt; omega
              · omega
            have e := hpx y hy
            rw [gtM_le hD o0 hle2 (allM_w hok y hy).ok hgy] at e
            cases e
        have q1 := order_at d hl64 h0 hn hd k0
        have q2 := order_at d hl64 h0 hxw.b1 hxw.b2 hxw.ok
        rw [ord_past hok hD o0 hpx hpt] at q2
        have q3 : F_ref03_SameIDs d ((unI ((ordI n dd (ptsL l)).map Pt.id), ()), (unI ((ordI n dd (ptsL l)).map Pt.id), ()), ()) = some true := by
          rw [F_ref03_SameIDs_eq _ _ (by
            unfold ref03_SameIDs_if
            simp only [Bool.and_eq_true, decide_eq_true_eq, idsI_unI, List.length_map, (ordI_perm n dd (ptsL l)).length_eq, ptsL_len]
            omega)]
          exact congrArg some (decide_eq_true rfl)
        have q4 := last2_loop d ea hok h0 hpt d 1 (by omega) (by omega)
        simp only [decide_eq_false hlt, cond_false, q1, q2, q3, b0, Bool.not_true, Dt.eval]
        exact q4
end Go.Proofs.YthopjgahedijcaaGreat

namespace Go
open Go.ChangeShapes Go.WideShapes Go.ChangeAt Go.RowKit
section
variable {H : Type} {enc : TypeId × Value → H} {P : Program} {w : World} {base : Nat} {spare : Nat → Bool} {held : Bool}
/-- a field of a struct -/
theorem field_at {t : TypeId} {fs : Array Field} {fuel : Nat} {cs : List Value} {x : DataW H × List MemPlace} (hs : P.underlying t = some (.struct fs)) (h : DataW.trod enc P w base spare held fuel t cs = some x)
    {i : Nat} {f : Field} (hf : fs[i]? = some f) {off n : Nat} {ft : TypeId} (ho : f.offset = off) (ht : f.type = ft) (hn : P.cellsOf ft = n) : ∃ m y, DataW.trod enc P w base spare held m ft ((cs.drop off).take n) = some y := by
  obtain ⟨xs, m, _, _, _, hlen, hg⟩ := DataW.trod_struct hs h
  have h1 := hg i f hf
  subst ho ht hn
  have hi : i < xs.length := by rw [hlen]; exact (Array.getElem?_eq_some_iff.1 hf).1
  exact ⟨m, xs[i], by rw [h1, List.getElem?_eq_getElem hi]⟩
theorem int_cell {t : TypeId} {k : IntKind} {fuel : Nat} {cs : List Value} {x : DataW H × List MemPlace} (ht : P.underlying t = some (.int k)) (h : DataW.trod enc P w base spare held fuel t cs = some x) : ∃ n, cs = [.int k n] ∧ (Lit.int k n).wf = true := by
  obtain ⟨n, h1, _, h2⟩ := DataW.trod_int ht h; exact ⟨n, h1, h2⟩
theorem wf_i64 {n : Int} (h : (Lit.int .i64 n).wf = true) : -9223372036854775808 ≤ n ∧ n ≤ 9223372036854775807 := bounds_i64 h
theorem wf_u8 {n : Int} (h : (Lit.int .u8 n).wf = true) : 0 ≤ n ∧ n ≤ 255 := bounds_u8 h
theorem bytes_of (zs : List Int) (h : ∀ n ∈ zs, (Lit.int .u8 n).wf = true) : ∃ l : List UInt8, zs = l.map fun x => (x.toNat : Int) := by
  induction zs with
  | nil => exact ⟨[], rfl⟩
  | cons z zs ih =>
    obtain ⟨l, rfl⟩ := ih (fun n hn => h n (List.mem_cons_of_mem _ hn))
    have hz := wf_u8 (h z (List.mem_cons_self ..))
    refine ⟨UInt8.ofNat z.toNat :: l, ?_⟩
    rw [List.map_cons]
    congr 1
    simp; omega
/-- bytes that came in -/
theorem arg_bytes {t e : TypeId} {fuel : Nat} {A : Option Addr} {n c : Nat} {x : DataW H × List MemPlace} (ht : P.underlying t = some (.slice e)) (he : P.underlying e = some (.int .u8)) (hc : P.cellsOf e = 1)
    (h : DataW.trod enc P w base (fun _ => true) held fuel t [Value.slice A n c] = some x) : ∃ l : List UInt8, l.length = n ∧ Sl w 1 A l.length c (vb l) := by
  rcases open_ints ht he hc h with ⟨hcs, _⟩ | ⟨a, len, cap, zs, hcs, _, hl, hm, hz, _, hcell, hwz⟩
  · simp only [List.cons.injEq, and_true] at hcs
    injection hcs with h1 h2 h3
    subst h1 h2 h3
    exact ⟨[], rfl, Sl.nil_ _ _ _ _⟩
  · simp only [List.cons.injEq, and_true] at hcs
    injection hcs with h1 h2 h3
    subst h1 h2 h3
    have hz' : zs.length = c := by simpa using hz
    obtain ⟨l, hl'⟩ := bytes_of (zs.take n) (fun m hm => hwz m (List.mem_of_mem_take hm))
    have hlen : l.length = n := by
      have := congrArg List.length hl'
      rw [List.length_take, List.length_map] at this; omega
    refine ⟨l, hlen, by omega, by rw [vb_length]; omega, fun hn => ?_⟩
    obtain ⟨b, o, spot⟩ := a
    have h0 := hcell 0 (by omega)
    have hspot : spot = none := by simpa [Addr.add] using World.cell?_spot h0
    subst hspot
    refine ⟨b, o, rfl, ?_, fun j u hu => ?_⟩
    · have hb := World.block_lt_of_cell? w _ h0
      simpa [Addr.add] using hb
    · rw [vb_get] at hu
      have hj : j < l.length := by
        rcases Nat.lt_or_ge j l.length with h | h
        · exact h
        · rw [List.getElem?_eq_none h] at hu; cases hu
      have h1 := hcell j (by omega)
      have e1 : (⟨b, o, none⟩ : Addr).add j = ⟨b, o + j, none⟩ := by
        unfold Addr.add; split
        · rename_i h0; rw [h0]; rfl
        · rfl
      rw [e1] at h1
      rw [h1, ← hu]
      have e2 : (zs.take n)[j]? = some (zs.getD j 0) := by
        rw [List.getElem?_take, if_pos (by omega), List.getD_eq_getElem?_getD, List.getElem?_eq_getElem (by omega)]; rfl
      rw [hl'] at e2
      rw [List.getElem?_map] at e2
      cases hx : l[j]? with
      | none => rw [hx] at e2; cases e2
      | some y => rw [hx] at e2; simp only [Option.map_some, Option.some.injEq] at e2 ⊢; rw [e2]
end
end Go
namespace Go.Proofs.YthopjgahedijcaaGreat
open Go.ChangeShapes Go.WideShapes Go.ChangeAt Go.RowKit
theorem ownKnob_ : ownKnob Tryz.prog.godebug = none := by kernel_rfl
theorem laidOut_ : laidOutB Tryz.prog = true := by kernel_rfl
end Go.Proofs.YthopjgahedijcaaGreat

namespace Go
open Go.ChangeShapes Go.WideShapes Go.ChangeAt Go.RowKit Go.Deep
theorem choose_below {α : Type} {p : Nat → α → Prop} : ∀ n : Nat, (∀ i, i < n → ∃ v, p i v) → ∃ l : List α, l.length = n ∧ ∀ (i : Nat) (x : α), l[i]? = some x → p i x
  | 0, _ => ⟨[], rfl, fun i x h => by simp at h⟩
  | n + 1, h => by
    obtain ⟨l, hl, hp⟩ := choose_below n fun i hi => h i (by omega)
    obtain ⟨v, hv⟩ := h n (by omega)
    refine ⟨l ++ [v], by simp [hl], fun i x hx => ?_⟩
    rcases Nat.lt_or_ge i n with hi | hi
    · rw [List.getElem?_append_left (by omega)] at hx; exact hp i x hx
    · rw [List.getElem?_append_right (by omega)] at hx
      have : i = n := by
        have := (List.getElem?_eq_some_iff.1 hx).1
        simp at this; omega
      subst this
      simp [hl] at hx
      subst hx; exact hv
theorem flat_get {α : Type} {cells : α → List Value} {k : Nat} (hk : ∀ a, (cells a).length = k) (h0 : 0 < k) : ∀ (l : List α) (j : Nat) (u : Value), (l.flatMap cells)[j]? = some u → ∃ x, l[j / k]? = some x ∧ (cells x)[j % k]? = some u
  | [], j, u, h => by simp at h
  | x :: l, j, u, h => by
    rw [List.flatMap_cons] at h
    rcases Nat.lt_or_ge j k with hj | hj
    · rw [List.getElem?_append_left (by rw [hk]; exact hj)] at h
      rw [Nat.div_eq_of_lt hj, Nat.mod_eq_of_lt hj]
      exact ⟨x, rfl, h⟩
    · rw [List.getElem?_append_right (by rw [hk]; exact hj), hk] at h
      obtain ⟨y, hy, hu⟩ := flat_get hk h0 l (j - k) u h
      obtain ⟨m, rfl⟩ : ∃ m, j = m + k := ⟨j - k, by omega⟩
      rw [Nat.add_sub_cancel] at hy hu
      rw [Nat.add_div_right _ h0, Nat.add_mod_right]
      exact ⟨y, by simpa using hy, hu⟩
theorem flat_len {α : Type} {cells : α → List Value} {k : Nat} (hk : ∀ a, (cells a).length = k) (l : List α) : (l.flatMap cells).length = l.length * k := by
  induction l with
  | nil => simp
  | cons x l ih => rw [List.flatMap_cons, List.length_append, ih, hk, List.length_cons, Nat.add_mul]; omega
section
variable {H : Type} {enc : TypeId × Value → H} {P : Program} {w : World} {base : Nat} {held : Bool}
theorem arg_nil {t e : TypeId} {fuel : Nat} {A : Option Addr} {n c : Nat} {x : DataW H × List MemPlace} (ht : P.underlying t = some (.slice e))
    (h : DataW.trod enc P w base (fun _ => true) held fuel t [Value.slice A n c] = some x) : A = none → c = 0 := by
  rcases open_slice ht h with ⟨hcs, _⟩ | ⟨a, len, cap, m, q, D, Pl, hcs, _⟩
  · simp only [List.cons.injEq, and_true] at hcs
    injection hcs with h1 h2 h3
    intro _; exact h3
  · simp only [List.cons.injEq, and_true] at hcs
    injection hcs with h1 h2 h3
    subst h1; intro h; cases h
/-- A slice that came in: the list of its elements. -/
theorem arg_slice {α : Type} (cells : α → List Value) (ok : α → Prop) {t e : TypeId} {k fuel : Nat} {A : Option Addr} {n c : Nat} {x : DataW H × List MemPlace}
    (ht : P.underlying t = some (.slice e)) (hC : P.cellsOf e = k) (h0 : 0 < k) (hk : ∀ a, (cells a).length = k)
    (hR : ∀ (m : Nat) (l : List Value) (y : DataW H × List MemPlace), DataW.trod enc P w base (fun _ => true) held m e l = some y → l.length = k → ∃ a, l = cells a ∧ ok a)
    (h : DataW.trod enc P w base (fun _ => true) held fuel t [Value.slice A n c] = some x) :
    ∃ l : List α, l.length = n ∧ Sl w k A l.length c (l.flatMap cells) ∧ (∀ a ∈ l, ok a) ∧ (A = none → c = 0) ∧ c ≤ maxLen := by
  rcases open_slice ht h with ⟨hcs, _⟩ | ⟨a, len, cap, m, q, D, Pl, hcs, _, hl, hmx, hm, _, hi⟩
  · simp only [List.cons.injEq, and_true] at hcs
    injection hcs with h1 h2 h3
    subst h1 h2 h3
    exact ⟨[], rfl, Sl.nil_ _ _ _ _, (fun _ h => by cases h), (fun _ => rfl), Nat.zero_le _⟩
  · simp only [List.cons.injEq, and_true] at hcs
    injection hcs with h1 h2 h3
    subst h1 h2 h3
    simp only [if_true] at hm
    subst hm
    obtain ⟨l, hll, hp⟩ := choose_below (α := α) (p := fun i v => (∀ j u, (cells v)[j]? = some u → w.cell? (a.add (i * k + j)) = some u) ∧ ok v) n (fun i hin => by
      obtain ⟨cs', hc, ht'⟩ := hi i (by omega)
      rw [hC] at hc
      obtain ⟨_, hcl, hat⟩ := World.cells?_some hc
      obtain ⟨v, rfl, hv⟩ := hR _ _ _ ht' hcl
      refine ⟨v, fun j u hu => ?_, hv⟩
      have hj : j < k := by rw [← hk v]; exact (List.getElem?_eq_some_iff.1 hu).1
      rw [← Go.Deep.add_add, hat j hj, hu])
    refine ⟨l, hll, ⟨by omega, by rw [flat_len hk, hll], fun hn => ?_⟩, fun v hv => ?_, (fun h => by cases h), hmx⟩
    · obtain ⟨v0, hv0⟩ : ∃ v, l[0]? = some v := ⟨_, List.getElem?_eq_getElem (by omega)⟩
      obtain ⟨u0, hu0⟩ : ∃ u, (cells v0)[0]? = some u := ⟨_, List.getElem?_eq_getElem (by rw [hk]; exact h0)⟩
      have hc0 := (hp 0 v0 hv0).1 0 u0 hu0
      obtain ⟨b, o, spot⟩ := a
      have hspot : spot = none := by simpa [Addr.add] using World.cell?_spot hc0
      subst hspot
      refine ⟨b, o, rfl, ?_, fun j u hu => ?_⟩
      · have hb := World.block_lt_of_cell? w _ hc0
        simpa [Addr.add] using hb
      · obtain ⟨v, hv, huv⟩ := flat_get hk h0 l j u hu
        have h1 := (hp _ v hv).1 _ u huv
        have e0 : j / k * k + j % k = j := by rw [Nat.mul_comm]; exact Nat.div_add_mod j k
        rw [e0] at h1
        have e1 : (⟨b, o, none⟩ : Addr).add j = ⟨b, o + j, none⟩ := by
          unfold Addr.add; split
          · rename_i h0; rw [h0]; rfl
          · rfl
        rw [e1] at h1; exact h1
    · obtain ⟨i, hi'⟩ := List.getElem?_of_mem hv
      exact (hp i v hi').2
end
end Go

namespace Go.Proofs.YthopjgahedijcaaGreat
open Go.ChangeShapes Go.WideShapes Go.ChangeAt Go.RowKit Go.Pel Go.Deep
theorem list1 {α : Type} (l : List α) (h : l.length = 1) : ∃ a, l = [a] := by
  match l, h with
  | [a], _ => exact ⟨a, rfl⟩
theorem list2 {α : Type} (l : List α) (h : l.length = 2) : ∃ a b, l = [a, b] := by
  match l, h with
  | [a, b], _ => exact ⟨a, b, rfl⟩
theorem list3 {α : Type} (l : List α) (h : l.length = 3) : ∃ a b c, l = [a, b, c] := by
  match l, h with
  | [a, b, c], _ => exact ⟨a, b, c, rfl⟩
section
variable {H : Type} {enc : TypeId × Value → H} {w : World} {base : Nat} {spare : Nat → Bool} {held : Bool}
theorem cellsF_int : Tryz.prog.cellsOf 3 = 1 := by kernel_rfl
theorem cellsF_i64 : Tryz.prog.cellsOf 2 = 1 := by kernel_rfl
theorem cellsF_point : Tryz.prog.cellsOf 33 = 3 := by kernel_rfl
theorem cellsF_field : Tryz.prog.cellsOf 24 = 1 := by kernel_rfl
theorem cellsF_points : Tryz.prog.cellsOf 22 = 1 := by kernel_rfl
theorem point_cells {fuel : Nat} {l : List Value} {x : DataW H × List MemPlace} (h : DataW.trod enc Tryz.prog w base spare held fuel 33 l = some x) (hl : l.length = 3) :
    ∃ p : Pt, l = [.int .i64 p.id, .int .i64 p.a, .int .i64 p.b] ∧ p.Fits := by
  obtain ⟨c0, c1, c2, rfl⟩ := list3 l hl
  obtain ⟨m4, y4, h4⟩ := field_at Tryz.underlying33 h (i := 0) rfl rfl rfl cellsF_int
  obtain ⟨m5, y5, h5⟩ := field_at Tryz.underlying33 h (i := 1) rfl rfl rfl cellsF_i64
  obtain ⟨m6, y6, h6⟩ := field_at Tryz.underlying33 h (i := 2) rfl rfl rfl cellsF_i64
  obtain ⟨i, e4, w4⟩ := int_cell Tryz.underlying3 h4
  obtain ⟨a, e5, w5⟩ := int_cell Tryz.underlying2 h5
  obtain ⟨b, e6, w6⟩ := int_cell Tryz.underlying2 h6
  simp at e4 e5 e6
  subst e4 e5 e6
  exact ⟨⟨i, a, b⟩, rfl, ⟨wf_i64 w4, wf_i64 w5, wf_i64 w6⟩⟩
theorem point_read (fuel : Nat) (l : List Value) (x : DataW H × List MemPlace) (h : DataW.trod enc Tryz.prog w base spare held fuel 33 l = some x) (hl : l.length = 3) : ∃ p : Pt, l = p.cells ∧ p.Fits := point_cells h hl
theorem field_cells {fuel : Nat} {l : List Value} {x : DataW H × List MemPlace} (h : DataW.trod enc Tryz.prog w base (fun _ => true) held fuel 24 l = some x) (hl : l.length = 1) :
    ∃ (A : Option Addr) (c : Nat) (m : List Pt), l = [.slice A m.length c] ∧ Sl w 3 A m.length c (vp m) ∧ (A = none → c = 0) ∧ ∀ p ∈ m, p.Fits := by
  obtain ⟨c0, rfl⟩ := list1 l hl
  obtain ⟨m0, y0, h0⟩ := field_at Tryz.underlying24 h (i := 0) rfl rfl rfl cellsF_points
  have h0' : DataW.trod enc Tryz.prog w base (fun _ => true) held m0 22 [c0] = some y0 := by simpa using h0
  obtain ⟨A, n, c, rfl⟩ : ∃ A n c, c0 = Value.slice A n c := by
    rcases open_slice Tryz.underlying22 h0' with ⟨hcs, _⟩ | ⟨a, len, cap, m, q, D, Pl, hcs, _⟩
    · simp only [List.cons.injEq, and_true] at hcs; exact ⟨_, _, _, hcs⟩
    · simp only [List.cons.injEq, and_true] at hcs; exact ⟨_, _, _, hcs⟩
  have hn := arg_nil Tryz.underlying22 h0'
  obtain ⟨pts, rfl, hs, hok, _, _⟩ := arg_slice Pt.cells Pt.Fits Tryz.underlying22 cellsF_point (by decide) (fun _ => rfl) point_read h0'
  exact ⟨A, c, pts, rfl, hs, hn, hok⟩
theorem cellsF_ratio : Tryz.prog.cellsOf 26 = 2 := by kernel_rfl
theorem ratio_cells {fuel : Nat} {l : List Value} {x : DataW H × List MemPlace} (h : DataW.trod enc Tryz.prog w base spare held fuel 26 l = some x) (hl : l.length = 2) :
    ∃ n d : Int, l = [.int .i64 n, .int .i64 d] ∧ (-9223372036854775808 ≤ n ∧ n ≤ 9223372036854775807) ∧ (-9223372036854775808 ≤ d ∧ d ≤ 9223372036854775807) := by
  obtain ⟨c0, c1, rfl⟩ := list2 l hl
  obtain ⟨m4, y4, h4⟩ := field_at Tryz.underlying26 h (i := 0) rfl rfl rfl cellsF_i64
  obtain ⟨m5, y5, h5⟩ := field_at Tryz.underlying26 h (i := 1) rfl rfl rfl cellsF_i64
  obtain ⟨n, e4, w4⟩ := int_cell Tryz.underlying2 h4
  obtain ⟨d, e5, w5⟩ := int_cell Tryz.underlying2 h5
  simp at e4 e5
  subst e4 e5
  exact ⟨n, d, rfl, wf_i64 w4, wf_i64 w5⟩
end
end Go.Proofs.YthopjgahedijcaaGreat
