/- slices.SortFunc at points: a row of the call's own, sorted by who leads. -/
import Derived.Shelf.SlSortCmp.NoneTotal
import Derived.Test.YtkcpnclgcmnlcaaShelf2
import Derived.Test.YtkcpnclgcmnlcaaSort1
set_option linter.unusedSimpArgs false
set_option linter.unusedVariables false
namespace Go
open RowKit Go.Sort Go.Proofs Go.Shelf
theorem flatK_list {α : Type} [Inhabited α] (enc : α → List Value) (k : Nat) (hk : ∀ x, (enc x).length = k) : ∀ (l : List α), (flatK enc k l.toArray).toList = l.flatMap enc := by
  intro l
  have key : ∀ (l : List α) (t : Nat), t < l.length * k → (l.flatMap enc)[t]? = some ((enc l[t / k]!)[t % k]!) := by
    intro l
    induction l with
    | nil => intro t ht; simp at ht
    | cons a r ih =>
      intro t ht
      have k0 : 0 < k := by
        rcases Nat.eq_zero_or_pos k with h | h
        · subst h; simp at ht
        · exact h
      rw [List.flatMap_cons]
      by_cases hlt : t < k
      · rw [List.getElem?_append_left (by rw [hk]; exact hlt), Nat.div_eq_of_lt hlt, Nat.mod_eq_of_lt hlt]
        have : t < (enc a).length := by rw [hk]; exact hlt
        simp [this]
      · rw [List.getElem?_append_right (by rw [hk]; omega), hk]
        have h2 : t - k < r.length * k := by
          rw [List.length_cons, Nat.add_mul, Nat.one_mul] at ht; omega
        rw [ih (t - k) h2]
        have e1 : t / k = (t - k) / k + 1 := by
          have := Nat.div_eq_sub_div k0 (by omega : k ≤ t)
          omega
        have e2 : t % k = (t - k) % k := Nat.mod_eq_sub_mod (by omega)
        rw [e1, e2]
        simp
  have hlen : (l.flatMap enc).length = l.length * k := by
    induction l with
    | nil => simp
    | cons a r ih => rw [List.flatMap_cons, List.length_append, ih, hk, List.length_cons, Nat.add_mul, Nat.one_mul]; omega
  apply List.ext_getElem?
  intro t
  by_cases ht : t < l.length * k
  · rw [key l t ht]
    simp [flatK, ht]
  · rw [List.getElem?_eq_none (by simp [flatK]; omega), List.getElem?_eq_none (by rw [hlen]; omega)]
theorem row_put {w : World} {base g cap size : Nat} {e : TypeId} {cur : List Value} (h : Row w base e size g cap cur) (q : Nat) (F : Array Value) (hF : F.size ≤ cur.length) : Row (putRow id (Sort.ahead w q) g 0 F) base e size g cap (F.toList ++ cur.drop F.size) := by
  refine ⟨h.1, ?_, h.2.2.1, ?_⟩
  · have : putCells id 0 F cur.toArray = (F.toList ++ cur.drop F.size).toArray := by
      apply Array.ext_getElem?
      intro k
      simp only [putCells, Array.getElem?_mapIdx, List.getElem?_toArray]
      by_cases hk : k < F.size
      · rw [List.getElem?_append_left (by simpa using hk)]
        have : k < cur.length := by omega
        simp [this, hk]
      · rw [List.getElem?_append_right (by simpa using hk)]
        simp [hk, show F.size + (k - F.size) = k by omega]
    unfold putRow mapBlock Sort.ahead
    simp [Array.getElem?_modify, h.2.1, onCells, this]
  · rw [List.length_append, List.length_drop, ← h.len]; simp; omega
theorem apart_put (g : Nat) (w : World) (q off : Nat) (F : Array Value) : Apart g w (putRow id (Sort.ahead w q) g off F) :=
  ⟨rfl, rfl, rfl, by simp [putRow, mapBlock, Sort.ahead], by simp [putRow, mapBlock, Sort.ahead], fun b hb => by simp [putRow, mapBlock, Sort.ahead, Array.getElem?_modify, Ne.symm hb]⟩
theorem bel_grow (w : World) (os : Array Obj) : Bel w (grow w os) :=
  ⟨⟨rfl, rfl, rfl, by simp [grow], fun k hk => by simp only [grow]; rw [Array.getElem?_append_left hk]⟩, Nat.le_refl _⟩
theorem ext_grow (w : World) (x : Beyond) : ext w x = grow (w.drewN x.drawn) x.objs := by
  unfold ext grow World.drewN; rfl
end Go
namespace Go.Proofs.Ytkcpnclgcmnlcaa
open Go.RowKit Go.Pel Go.Sort Go.Shelf
def encL (l : List Pt) (x : {p : Pt // p ∈ l}) : List Value := x.1.cells
theorem flat_attach (l : List Pt) (m : List {p : Pt // p ∈ l}) : m.flatMap (encL l) = vp (m.map Subtype.val) := by
  unfold vp encL; rw [List.flatMap_map]
set_option maxRecDepth 10000 in
set_option maxHeartbeats 1000000 in
theorem sortFunc_any (A : Option Addr) (c : Nat) (l : List Pt) (n d : Int) (rb B : Nat) (wB w : World) (hs : Own w B 26 3 A l.length c (vp l)) (hb : Bel wB w) (hB : wB.heap.size ≤ B) (hrb : rb < B)
    (r0 : Held w rb 0 (.int .i64 n)) (r1 : Held w rb 1 (.int .i64 d)) (hn : -9223372036854775808 ≤ n ∧ n ≤ 9223372036854775807) (hd : -9223372036854775808 ≤ d ∧ d ≤ 9223372036854775807) (hl : l.length ≤ 1000000) (hi : IdsApart l) (ht : ∀ p ∈ l, ∀ q ∈ l, p.id ≠ q.id → twoChk p q n d = 0) :
    Calls Try.prog 113 #[.slice A l.length c, .func (.func 114) #[] #[.pointer (some ⟨rb, 0, none⟩)]] w fun e w' => e = .returned (.tuple #[]) ∧ ∃ y, w' = ext wB y ∧ Own (ext wB y) B 26 3 A l.length c (vp (sortP n d l)) := by
  by_cases h0 : l = []
  · subst h0
    have hcon := AnyF.slices_SortFunc_none Try.laysSort A c (.func (.func 114) #[] #[.pointer (some ⟨rb, 0, none⟩)]) w
    refine Calls.mono hcon ?_
    rintro e w' ⟨rfl, rfl⟩
    refine ⟨rfl, own_exists hb ?_ (Bel.refl _)⟩
    have e0 : sortP n d [] = [] := List.eq_nil_of_length_eq_zero (sortP_length n d [])
    rw [e0]; exact hs
  · rcases hs.row with ⟨rfl, hn, _⟩ | ⟨g, cur, rfl, hr, hnc, hcur⟩
    · exact absurd (List.eq_nil_of_length_eq_zero hn) h0
    have hg := hr.1
    haveI : Inhabited {p : Pt // p ∈ l} := ⟨⟨l.head h0, List.head_mem h0⟩⟩
    have hcl : (vp l).length ≤ cur.length := by rw [← hcur, List.length_take]; omega
    have eg : ∀ args w, (callFunc 114 args).run Try.prog w = .ok (.enter 114 args) w := enters_of Try.func114 (by kernel_rfl) rfl
    have hk : ∀ x, (encL l x).length = 3 := fun _ => rfl
    have hflat : ∀ m : List {p : Pt // p ∈ l}, (flatK (encL l) 3 m.toArray).toList = vp (m.map Subtype.val) := fun m => by rw [flatK_list _ _ hk, flat_attach]
    have hcmp : CmpLays Try.prog 114 #[.pointer (some ⟨rb, 0, none⟩)] (encL l) 3 (cfL n d l) g 0 l.attach.toArray.size w := by
      intro m os dk _ x y
      have hap : Apart g w (putRowK (encL l) 3 (Sort.ahead w m) g 0 dk) := apart_put g w m 0 _
      have hbg : Bel (putRowK (encL l) 3 (Sort.ahead w m) g 0 dk) (sortWorldK (encL l) 3 w g 0 m dk os) := bel_grow _ os
      have h := sorted1_any x.1 y.1 n d rb (sortWorldK (encL l) 3 w g 0 m dk os) hn hd ((r0.apart hap (by omega)).bel hbg) ((r1.apart hap (by omega)).bel hbg) (ht _ x.2 _ y.2)
      refine Calls.mono h ?_
      rintro e w' ⟨rfl, z, rfl⟩
      exact ⟨rfl, z.drawn, z.objs, ext_grow _ z⟩
    have hfl : (flatK (encL l) 3 l.attach.toArray) = (vp l).toArray := by
      apply Array.toList_inj.1
      rw [hflat, List.attach_map_subtype_val]
    have hH : HoldsK (encL l) 3 w g 0 l.attach.toArray := by
      unfold HoldsK
      rw [hfl]
      intro j hj
      have hj' : j < (vp l).length := by simpa using hj
      refine ⟨?_, hr.frozen _⟩
      rw [Nat.zero_add]
      refine hr.cell ?_
      have : cur[j]? = (vp l)[j]? := by
        rw [← hcur, List.getElem?_take, if_pos]
        rw [vp_len] at hj'; exact hj'
      rw [this]
      simp [hj']
    have hcon := AnyQ.slices_SortFunc_total Try.laysSort 3 Try.isAgg26 Try.sizeOf26 (encL l) hk (fun x v hv => pt_one x.1 v hv) (cfL n d l) (swo_cfL hi) 114 #[.pointer (some ⟨rb, 0, none⟩)] g 0 c l.attach.toArray w eg hcmp hH hr.lt (by simp; omega) (fun x y h1 h2 => tot_cfL hi x y h1 h2)
    have hsz : l.attach.toArray.size = l.length := by simp
    rw [hsz] at hcon
    refine Calls.mono hcon ?_
    rintro e w' ⟨rfl, m, os, rfl⟩
    refine ⟨rfl, ?_⟩
    have hF : flatK (encL l) 3 (l.attach.mergeSort fun x y => !(ltOf (cfL n d l)) y x).toArray = (vp (sortP n d l)).toArray := by
      apply Array.toList_inj.1
      rw [hflat]; rfl
    have hlen : (vp (sortP n d l)).length = l.length * 3 := by rw [vp_len, sortP_length]
    have hrow := row_put hr m (vp (sortP n d l)).toArray (by rw [vp_len] at hcl; simp; omega)
    have hap : Apart g w (putRow id (Sort.ahead w m) g 0 (vp (sortP n d l)).toArray) := apart_put g w m 0 _
    have hown := hrow.own hnc
    have htk : List.take (l.length * 3) ((vp (sortP n d l)).toArray.toList ++ List.drop (vp (sortP n d l)).toArray.size cur) = vp (sortP n d l) := by
      simp only [List.size_toArray]
      rw [List.take_append_of_le_length (by omega), ← hlen, List.take_length]
    rw [htk] at hown
    unfold sortWorldK putRowK
    show ∃ y, grow (putRow id (Sort.ahead w m) g 0 (flatK (encL l) 3 (l.attach.mergeSort fun x y => !(ltOf (cfL n d l)) y x).toArray)) os = ext wB y ∧ _
    rw [hF]
    exact own_exists ((hap.bel hb (by omega)).trans (bel_grow _ os)) hown (bel_grow _ os)
end Go.Proofs.Ytkcpnclgcmnlcaa
