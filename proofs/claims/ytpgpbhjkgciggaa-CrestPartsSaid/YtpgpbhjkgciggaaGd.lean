/- Walks of the references; the orders agree; examples. -/
import Derived.Shelf.SlSortCmp.NoneTotal
import Derived.Test.YtpgpbhjkgciggaaProg
import Derived.Test.YtpgpbhjkgciggaaGc
set_option linter.unusedSimpArgs false
set_option linter.unusedVariables false
namespace Go.Proofs.Ytpgpbhjkgciggaa
open Go.RowKit Go.Pel
set_option maxRecDepth 10000 in
set_option maxHeartbeats 2000000 in
theorem qrn (p q:Pt) (n d:Int) (rb:Nat) (w:World) (hn:-9223372036854775808≤n∧n≤9223372036854775807) (hd:-9223372036854775808≤d∧d≤9223372036854775807) (r0:Held w rb 0 (.int .i64 n)) (r1:Held w rb 1 (.int .i64 d)) (ht:p.id≠q.id→qlo p q n d=0) :
    Calls Try.prog 91 #[.agg #[.int .i64 p.id,.int .i64 p.a,.int .i64 p.b],.agg #[.int .i64 q.id,.int .i64 q.a,.int .i64 q.b],.pointer (some ⟨rb,0,none⟩)] w fun e w'=>e=.returned (.int .i64 (cfP n d p q))∧∃ x,w'=ext w x:=by
  have hb:=r0.lt
  have c0:=r0.eq
  have c1:=r1.eq
  have q1:=Lib.hid (fun W=>qmg p q n d W hn hd)
  clear hn hd r0 r1
  by_cases h:p.id=q.id
  · have HV := Lib.hid (show (0 : Int) = cfP n d p q from (if_pos h).symm)
    clear ht q1
    go_enter Try.func91,Try.ntmps91
    go_wp2
    (go_ret;exact ⟨qkq (by exact HV.out),ext_of (by (try simp only [qcj]);repeat (first | exact Bel.refl _ | assumption | refine qcs ?_ _ | refine qct ?_ _ | refine Bel.ext ?_ _ | refine Bel.alloc ?_ _ | refine Bel.drewN ?_ _))⟩)
  · have HA : qlt p q n d = (qld p q n d, 0) := if_pos (ht h)
    rw [HA] at q1
    clear ht HA
    rcases hL:qld p q n d with _ | _
    · have HV := Lib.hid (show (1 : Int) = cfP n d p q by unfold cfP; rw [if_neg h, hL]; rfl)
      rw [hL] at q1
      clear hL
      go_enter Try.func91,Try.ntmps91
      go_wp2_with ((go_at_call 28;(with_reducible refine (q1.out _).mono ?_);rintro e _ ⟨rfl,nx,rfl⟩))
      (go_ret;exact ⟨qkq (by exact HV.out),ext_of (by (try simp only [qcj]);repeat (first | exact Bel.refl _ | assumption | refine qcs ?_ _ | refine qct ?_ _ | refine Bel.ext ?_ _ | refine Bel.alloc ?_ _ | refine Bel.drewN ?_ _))⟩)
    · have HV := Lib.hid (show (-1 : Int) = cfP n d p q by unfold cfP; rw [if_neg h, hL]; rfl)
      rw [hL] at q1
      clear hL
      go_enter Try.func91,Try.ntmps91
      go_wp2_with ((go_at_call 28;(with_reducible refine (q1.out _).mono ?_);rintro e _ ⟨rfl,nx,rfl⟩))
      (go_ret;exact ⟨qkq (by exact HV.out),ext_of (by (try simp only [qcj]);repeat (first | exact Bel.refl _ | assumption | refine qcs ?_ _ | refine qct ?_ _ | refine Bel.ext ?_ _ | refine Bel.alloc ?_ _ | refine Bel.drewN ?_ _))⟩)
end Go.Proofs.Ytpgpbhjkgciggaa

namespace Go
open RowKit Go.Sort Go.Proofs Go.Shelf
theorem qro {α:Type} [Inhabited α] (enc:α→List Value) (k:Nat) (hk:∀ x,(enc x).length=k):∀ (l:List α),(flatK enc k l.toArray).toList=l.flatMap enc:=by
  intro l
  have key:∀ (l:List α) (t:Nat),t<l.length*k→(l.flatMap enc)[t]?=some ((enc l[t / k]!)[t % k]!):=by
    intro l
    induction l with
    | nil=>intro t ht;simp at ht
    | cons a r ih =>
      intro t ht
      have k0:0<k:=by
        rcases Nat.eq_zero_or_pos k with h | h
        · subst h;simp at ht
        · exact h
      rw [List.flatMap_cons]
      by_cases hlt:t<k
      · rw [List.getElem?_append_left (by rw [hk]; exact hlt), Nat.div_eq_of_lt hlt, Nat.mod_eq_of_lt hlt]
        have:t<(enc a).length:=by rw [hk];exact hlt
        simp [this]
      · rw [List.getElem?_append_right (by rw [hk]; omega), hk]
        have h2:t - k<r.length*k:=by
          rw [List.length_cons,Nat.add_mul,Nat.one_mul] at ht;omega
        rw [ih (t - k) h2]
        have e1:t / k=(t - k) / k+1:=by
          have:=Nat.div_eq_sub_div k0 (by omega:k≤t)
          omega
        have e2:t % k=(t - k) % k:=Nat.mod_eq_sub_mod (by omega)
        rw [e1,e2]
        simp
  have hlen:(l.flatMap enc).length=l.length*k:=by
    induction l with
    | nil=>simp
    | cons a r ih=>rw [List.flatMap_cons,List.length_append,ih,hk,List.length_cons,Nat.add_mul,Nat.one_mul];omega
  apply List.ext_getElem?
  intro t
  by_cases ht:t<l.length*k
  · rw [key l t ht]
    simp [flatK,ht]
  · rw [List.getElem?_eq_none (by simp [flatK];omega),List.getElem?_eq_none (by rw [hlen];omega)]
theorem qrp {w:World} {base g cap size:Nat} {e:TypeId} {cur:List Value} (h:Row w base e size g cap cur) (q:Nat) (F:Array Value) (hF:F.size≤cur.length):Row (putRow id (Sort.ahead w q) g 0 F) base e size g cap (F.toList++cur.drop F.size):=by
  refine ⟨h.1,?_,h.2.2.1,?_⟩
  · have:putCells id 0 F cur.toArray=(F.toList++cur.drop F.size).toArray:=by
      apply Array.ext_getElem?
      intro k
      simp only [putCells,Array.getElem?_mapIdx,List.getElem?_toArray]
      by_cases hk:k<F.size
      · rw [List.getElem?_append_left (by simpa using hk)]
        have:k<cur.length:=by omega
        simp [this,hk]
      · rw [List.getElem?_append_right (by simpa using hk)]
        simp [hk,show F.size+(k - F.size)=k by omega]
    unfold putRow mapBlock Sort.ahead
    simp [Array.getElem?_modify,h.2.1,onCells,this]
  · rw [List.length_append,List.length_drop,← h.len];simp;omega
theorem qrq (g:Nat) (w:World) (q off:Nat) (F:Array Value):Apart g w (putRow id (Sort.ahead w q) g off F) :=
  ⟨rfl,rfl,rfl,by simp [putRow,mapBlock,Sort.ahead],by simp [putRow,mapBlock,Sort.ahead],fun b hb=>by simp [putRow,mapBlock,Sort.ahead,Array.getElem?_modify,Ne.symm hb]⟩
theorem qrr (w:World) (os:Array Obj):Bel w (grow w os) :=
  ⟨⟨rfl,rfl,rfl,by simp [grow],fun k hk=>by simp only [grow];rw [Array.getElem?_append_left hk]⟩,Nat.le_refl _⟩
theorem qrs (w:World) (x:Beyond):ext w x=grow (w.drewN x.drawn) x.objs:=by
  unfold ext grow World.drewN;rfl
end Go
namespace Go.Proofs.Ytpgpbhjkgciggaa
open Go.RowKit Go.Pel Go.Sort Go.Shelf
def encL (l:List Pt) (x:{p:Pt // p∈l}):List Value:=x.1.cells
theorem qrt (l:List Pt) (m:List {p:Pt // p∈l}):m.flatMap (encL l)=vp (m.map Subtype.val):=by
  unfold vp encL;rw [List.flatMap_map]
set_option maxRecDepth 10000 in
set_option maxHeartbeats 1000000 in
theorem qru (A:Option Addr) (c:Nat) (l:List Pt) (n d:Int) (rb B:Nat) (wB w:World) (hs:Own w B 42 3 A l.length c (vp l)) (hb:Bel wB w) (hB:wB.heap.size≤B) (hrb:rb<B)
    (r0:Held w rb 0 (.int .i64 n)) (r1:Held w rb 1 (.int .i64 d)) (hn:-9223372036854775808≤n∧n≤9223372036854775807) (hd:-9223372036854775808≤d∧d≤9223372036854775807) (hl:l.length≤1000000) (hi:qrg l) (ht:∀ p∈l,∀ q∈l,p.id≠q.id→qlo p q n d=0) :
    Calls Try.prog 90 #[.slice A l.length c,.func (.func 91) #[] #[.pointer (some ⟨rb,0,none⟩)]] w fun e w'=>e=.returned (.tuple #[])∧∃ y,w'=ext wB y∧Own (ext wB y) B 42 3 A l.length c (vp (qrj n d l)):=by
  by_cases h0:l=[]
  · subst h0
    have hcon:=AnyF.slices_SortFunc_none Try.laysSort A c (.func (.func 91) #[] #[.pointer (some ⟨rb,0,none⟩)]) w
    refine Calls.mono hcon ?_
    rintro e w' ⟨rfl,rfl⟩
    refine ⟨rfl,qg8 hb ?_ (Bel.refl _)⟩
    have e0:qrj n d []=[]:=List.eq_nil_of_length_eq_zero (qrl n d [])
    rw [e0];exact hs
  · rcases hs.row with ⟨rfl, hn, _⟩ | ⟨g, cur, rfl, hr, hnc, hcur⟩
    · exact absurd (List.eq_nil_of_length_eq_zero hn) h0
    have hg:=hr.1
    haveI:Inhabited {p:Pt // p∈l}:=⟨⟨l.head h0,List.head_mem h0⟩⟩
    have hcl:(vp l).length≤cur.length:=by rw [← hcur,List.length_take];omega
    have eg:∀ args w,(callFunc 91 args).run Try.prog w=.ok (.enter 91 args) w:=enters_of Try.func91 (by kernel_rfl) rfl
    have hk:∀ x,(encL l x).length=3:=fun _=>rfl
    have hflat:∀ m:List {p:Pt // p∈l},(flatK (encL l) 3 m.toArray).toList=vp (m.map Subtype.val):=fun m=>by rw [qro _ _ hk,qrt]
    have hcmp:CmpLays Try.prog 91 #[.pointer (some ⟨rb,0,none⟩)] (encL l) 3 (cfL n d l) g 0 l.attach.toArray.size w:=by
      intro m os dk _ x y
      have hap:Apart g w (putRowK (encL l) 3 (Sort.ahead w m) g 0 dk):=qrq g w m 0 _
      have hbg:Bel (putRowK (encL l) 3 (Sort.ahead w m) g 0 dk) (sortWorldK (encL l) 3 w g 0 m dk os):=qrr _ os
      have h:=qrn x.1 y.1 n d rb (sortWorldK (encL l) 3 w g 0 m dk os) hn hd ((r0.apart hap (by omega)).bel hbg) ((r1.apart hap (by omega)).bel hbg) (ht _ x.2 _ y.2)
      refine Calls.mono h ?_
      rintro e w' ⟨rfl,z,rfl⟩
      exact ⟨rfl,z.drawn,z.objs,qrs _ z⟩
    have hfl:(flatK (encL l) 3 l.attach.toArray)=(vp l).toArray:=by
      apply Array.toList_inj.1
      rw [hflat,List.attach_map_subtype_val]
    have hH:HoldsK (encL l) 3 w g 0 l.attach.toArray:=by
      unfold HoldsK
      rw [hfl]
      intro j hj
      have hj':j<(vp l).length:=by simpa using hj
      refine ⟨?_,hr.frozen _⟩
      rw [Nat.zero_add]
      refine hr.cell ?_
      have:cur[j]?=(vp l)[j]?:=by
        rw [← hcur,List.getElem?_take,if_pos]
        rw [qgw] at hj';exact hj'
      rw [this]
      simp [hj']
    have hcon:=AnyQ.slices_SortFunc_total Try.laysSort 3 Try.isAgg42 Try.sizeOf42 (encL l) hk (fun x v hv=>qgu x.1 v hv) (cfL n d l) (qrh hi) 91 #[.pointer (some ⟨rb,0,none⟩)] g 0 c l.attach.toArray w eg hcmp hH hr.lt (by simp;omega) (fun x y h1 h2=>qri hi x y h1 h2)
    have hsz:l.attach.toArray.size=l.length:=by simp
    rw [hsz] at hcon
    refine Calls.mono hcon ?_
    rintro e w' ⟨rfl,m,os,rfl⟩
    refine ⟨rfl,?_⟩
    have hF:flatK (encL l) 3 (l.attach.mergeSort fun x y=>!(ltOf (cfL n d l)) y x).toArray=(vp (qrj n d l)).toArray:=by
      apply Array.toList_inj.1
      rw [hflat];rfl
    have hlen:(vp (qrj n d l)).length=l.length*3:=by rw [qgw,qrl]
    have hrow:=qrp hr m (vp (qrj n d l)).toArray (by rw [qgw] at hcl;simp;omega)
    have hap:Apart g w (putRow id (Sort.ahead w m) g 0 (vp (qrj n d l)).toArray):=qrq g w m 0 _
    have hown:=hrow.own hnc
    have htk:List.take (l.length*3) ((vp (qrj n d l)).toArray.toList++List.drop (vp (qrj n d l)).toArray.size cur)=vp (qrj n d l):=by
      simp only [List.size_toArray]
      rw [List.take_append_of_le_length (by omega),← hlen,List.take_length]
    rw [htk] at hown
    unfold sortWorldK putRowK
    show ∃ y,grow (putRow id (Sort.ahead w m) g 0 (flatK (encL l) 3 (l.attach.mergeSort fun x y=>!(ltOf (cfL n d l)) y x).toArray)) os=ext wB y∧_
    rw [hF]
    exact qg8 ((hap.bel hb (by omega)).trans (qrr _ os)) hown (qrr _ os)
end Go.Proofs.Ytpgpbhjkgciggaa

namespace Go.Pel
def qrv (l:List Pt) (n d:Int):List Pt×Int:=if qh2 l≠0 then ([],qh2 l) else if qe0 n d≠0 then ([],qe0 n d) else (qrj n d l,0)
theorem qrw {l:List Pt} (h:incB l=true):qrg l:=by
  intro p hp q hq he
  obtain ⟨i,hi⟩:=List.mem_iff_getElem?.1 hp
  obtain ⟨j,hj⟩:=List.mem_iff_getElem?.1 hq
  rcases (by omega:i<j∨j<i∨i=j) with k | k | k
  · have:=qh1 h k hi hj;omega
  · have:=qh1 h k hj hi;omega
  · subst k;rw [hi] at hj;exact Option.some.inj hj
end Go.Pel
namespace Go.Proofs.Ytpgpbhjkgciggaa
open Go.RowKit Go.Pel
set_option maxRecDepth 10000 in
set_option maxHeartbeats 2000000 in
theorem qrx (A:Option Addr) (c:Nat) (l:List Pt) (n d:Int) (w:World) (hn:-9223372036854775808≤n∧n≤9223372036854775807) (hd:-9223372036854775808≤d∧d≤9223372036854775807) (hs:Sl w 3 A l.length c (vp l)) (hn0:A=none→c=0) :
    Calls Try.prog 59 #[.agg #[.slice A l.length c],.agg #[.int .i64 n,.int .i64 d]] w fun e w'=>∃ A' c',e=.returned (.tuple #[.slice A' (qrv l n d).1.length c',.int .i64 (qrv l n d).2])∧∃ x,w'=ext w x∧Own (ext w x) w.heap.size 42 3 A' (qrv l n d).1.length c' (vp (qrv l n d).1):=by
  have q:=Lib.hid (fun W hb=>qmc A c l W (hs.bel (w':=W) hb))
  have q2:=Lib.hid (fun W=>qkw n d W hn hd)
  by_cases h:qh2 l=0
  · rw [h] at q
    obtain ⟨h64,hchk,hinc⟩:=qh7 h
    by_cases h2:qe0 n d=0
    · rw [h2] at q2
      have HF:Hid (qrv l n d=(qrj n d l,0)):=Lib.hid (by unfold qrv;rw [if_neg (by simpa using h),if_neg (by simpa using h2)])
      have q3:=Lib.hid (fun W hb=>qr2 A c l W (hs.bel (w':=W) hb) hn0 (by omega))
      have hia:=qrw hinc
      have hap:∀ p∈l,∀ q∈l,p.id≠q.id→qlo p q n d=0:=fun p hp q hq hne=>qlr ⟨hchk p hp,hchk q hq,h2⟩ hne
      have q4:=Lib.hid (fun (A2:Option Addr) (c2 rb B:Nat) (W:World) (hs2:Own W B 42 3 A2 l.length c2 (vp l)) (hb:Bel w W) (hB:w.heap.size≤B) (hrb:rb<B) (r0:Held W rb 0 (.int .i64 n)) (r1:Held W rb 1 (.int .i64 d))=>qru A2 c2 l n d rb B w W hs2 hb hB hrb r0 r1 hn hd (by omega) hia hap)
      rw [HF.out]
      clear h h2 h64 hchk hinc hia hap hn hd HF
      have HL:=Lib.hid (qrl n d l)
      go_enter Try.func59,Try.ntmps59
      go_wp2_with (first | (go_at_call 20;refine (q.out _ (by (try simp only [qcj]);repeat (first | exact Bel.refl _ | assumption | refine qcs ?_ _ | refine qct ?_ _ | refine Bel.ext ?_ _ | refine Bel.alloc ?_ _ | refine Bel.drewN ?_ _))).mono ?_;rintro e _ ⟨rfl,nx,rfl⟩) | (go_at_call 37;refine (q2.out _).mono ?_;rintro e _ ⟨rfl,nx,rfl⟩))
      refine (q3.out _ (by (try simp only [qcj]);repeat (first | exact Bel.refl _ | assumption | refine qcs ?_ _ | refine qct ?_ _ | refine Bel.ext ?_ _ | refine Bel.alloc ?_ _ | refine Bel.drewN ?_ _))).mono ?_
      rintro e _ ⟨A2,c2,rfl,x2,rfl,own2⟩
      simp only [qcj] at own2 ⊢
      have own3:=own2.base_le (base':=w.heap.size+2) (by simp [go_sem])
      clear own2
      generalize hZ:((_:Beyond).and _).and x2=Z at own3 ⊢
      obtain ⟨W2,hW2⟩:∃ W2,ext ((w.alloc (.cells #[.slice A l.length c] 24)).alloc (.cells #[.int .i64 n,.int .i64 d] 36)) Z=W2:=⟨_,rfl⟩
      rw [hW2] at own3 ⊢
      have hb2:Bel w W2:=by rw [← hW2];exact (by (try simp only [qcj]);repeat (first | exact Bel.refl _ | assumption | refine qcs ?_ _ | refine qct ?_ _ | refine Bel.ext ?_ _ | refine Bel.alloc ?_ _ | refine Bel.drewN ?_ _))
      have hb3:Bel ((w.alloc (.cells #[.slice A l.length c] 24)).alloc (.cells #[.int .i64 n,.int .i64 d] 36)) W2:=by rw [← hW2];exact q9j _ _
      have e1:(w.alloc (.cells #[.slice A l.length c] 24)).heap.size=w.heap.size+1:=by simp [go_sem]
      have r0:=Held.new (j:=0) hb3 rfl
      have r1:=Held.new (j:=1) hb3 rfl
      rw [e1] at r0 r1
      have q5:=q4.out A2 c2 (w.heap.size+1) (w.heap.size+2) W2 own3 hb2 (by omega) (by omega) r0 r1
      clear hW2 hZ q4 q3 q2 q r0 r1 hb3 own3
      go_wp2_with (go_at_call 90;refine q5.mono ?_;rintro e _ ⟨rfl,y,rfl,own4⟩)
      go_ret2
      refine ⟨A2,c2,?_,y,rfl,?_⟩
      · rw [HL.out];rfl
      · rw [HL.out];exact own4.base_le (by omega)
    · rw [show qrv l n d = ([], qe0 n d) by unfold qrv; rw [if_neg (by simpa using h), if_pos h2]]
      have h2':(qe0 n d != 0)=true:=by simpa using h2
      clear h h64 hchk hinc h2 hn hd
      go_enter Try.func59,Try.ntmps59
      go_wp2_with (first | (go_at_call 20;refine (q.out _ (by (try simp only [qcj]);repeat (first | exact Bel.refl _ | assumption | refine qcs ?_ _ | refine qct ?_ _ | refine Bel.ext ?_ _ | refine Bel.alloc ?_ _ | refine Bel.drewN ?_ _))).mono ?_;rintro e _ ⟨rfl,nx,rfl⟩) | (go_at_call 37;refine (q2.out _).mono ?_;rintro e _ ⟨rfl,nx,rfl⟩))
      go_ret2
      exact ⟨none,0,rfl,qg8 (by (try simp only [qcj]);repeat (first | exact Bel.refl _ | assumption | refine qcs ?_ _ | refine qct ?_ _ | refine Bel.ext ?_ _ | refine Bel.alloc ?_ _ | refine Bel.drewN ?_ _)) (Own.nil_ _ _ _ _) (Bel.refl _)⟩
  · rw [show qrv l n d = ([], qh2 l) by unfold qrv; rw [if_pos h]]
    have h':(qh2 l != 0)=true:=by simpa using h
    clear h hn hd
    go_enter Try.func59,Try.ntmps59
    go_wp2_with (first | (go_at_call 20;refine (q.out _ (by (try simp only [qcj]);repeat (first | exact Bel.refl _ | assumption | refine qcs ?_ _ | refine qct ?_ _ | refine Bel.ext ?_ _ | refine Bel.alloc ?_ _ | refine Bel.drewN ?_ _))).mono ?_;rintro e _ ⟨rfl,nx,rfl⟩))
    go_ret2
    exact ⟨none,0,rfl,qg8 (by (try simp only [qcj]);repeat (first | exact Bel.refl _ | assumption | refine qcs ?_ _ | refine qct ?_ _ | refine Bel.ext ?_ _ | refine Bel.alloc ?_ _ | refine Bel.drewN ?_ _)) (Own.nil_ _ _ _ _) (Bel.refl _)⟩
end Go.Proofs.Ytpgpbhjkgciggaa

namespace Go.Pel
end Go.Pel
namespace Go.Proofs.Ytpgpbhjkgciggaa
open Go.RowKit Go.Pel
end Go.Proofs.Ytpgpbhjkgciggaa

namespace Go.Pel
open Go
def qrz (l:List Pt) (n d:Int):List Int×Int:=if (qrv l n d).2≠0 then ([],(qrv l n d).2) else ((qrv l n d).1.map Pt.id,0)
def qs0 (m:List Pt) (k:Nat):List Value:=vi ((m.take k).map Pt.id)++List.replicate (m.length - k) (.int .i64 0)
theorem qs1 {m:List Pt} {k:Nat} {p:Pt} (h:m[k]?=some p):(qs0 m k).set k (.int .i64 p.id)=qs0 m (k+1):=by
  have hk:=(List.getElem?_eq_some_iff.1 h).1
  unfold qs0
  have hl:(vi ((m.take k).map Pt.id)).length=k:=by simp [vi];omega
  rw [List.set_append_right _ _ (by omega),hl,Nat.sub_self]
  obtain ⟨r,hr⟩:∃ r,m.length - k=r+1:=⟨m.length - k - 1,by omega⟩
  rw [hr,List.replicate_succ,List.set_cons_zero,List.take_add_one,h]
  simp [vi,show m.length - (k+1)=r by omega]
theorem qs2 {m:List Pt} {k:Nat} (hk:k<m.length):(qs0 m k)[k]?=some (.int .i64 0):=by
  unfold qs0
  have hl:(vi ((m.take k).map Pt.id)).length=k:=by simp [vi];omega
  rw [List.getElem?_append_right (by omega),hl,Nat.sub_self,List.getElem?_replicate,if_pos (by omega)]
theorem qs3 (m:List Pt):qs0 m m.length=vi (m.map Pt.id):=by simp [qs0]
end Go.Pel
namespace Go.Proofs.Ytpgpbhjkgciggaa
open Go.RowKit Go.Pel
theorem qs4:SlT Try.prog 37 3 (.int .i64 0) 1 8:=⟨by kernel_rfl,by kernel_rfl,by kernel_rfl,by decide,by decide⟩
theorem qs5 (n:Nat):(madeCells (Value.int .i64 0).cells (n*1)).toList=List.replicate n (.int .i64 0):=by
  apply List.ext_getElem?
  intro k
  by_cases hk:k<n<;>simp [madeCells,Value.cells,Nat.mod_one,List.getElem?_replicate,hk]
set_option maxRecDepth 10000 in
set_option maxHeartbeats 2000000 in
theorem qs6 (A:Option Addr) (c:Nat) (l:List Pt) (n d:Int) (w:World) (hn:-9223372036854775808≤n∧n≤9223372036854775807) (hd:-9223372036854775808≤d∧d≤9223372036854775807) (hs:Sl w 3 A l.length c (vp l)) (hn0:A=none→c=0) (hl:l.length≤1000000) :
    Calls Try.prog 35 #[.agg #[.slice A l.length c],.agg #[.int .i64 n,.int .i64 d]] w fun e w'=>∃ A' c',e=.returned (.tuple #[.slice A' (qrz l n d).1.length c',.int .i64 (qrz l n d).2])∧∃ x,w'=ext w x∧Own (ext w x) w.heap.size 3 1 A' (qrz l n d).1.length c' (vi (qrz l n d).1):=by
  have q:=Lib.hid (fun W hb=>qrx A c l n d W hn hd (hs.bel (w':=W) hb) hn0)
  have hlm:(qrv l n d).1.length≤1000000:=by
    unfold qrv;split
    · simp
    · split
      · simp
      · rw [qrl];exact hl
  unfold qrz
  generalize qrv l n d=F at q hlm ⊢
  obtain ⟨m,v⟩:=F
  simp only at q hlm ⊢
  by_cases h:v=0
  · subst h
    rw [if_neg (by decide)]
    simp only [List.length_map]
    clear hn hd
    go_enter Try.func35,Try.ntmps35
    go_wp2_with (first | (refine qfh qs4 (Bel.refl _) (n:=m.length) (by omega) rfl _ _ rfl rfl rfl ?_;rintro g y hg hown;rw [qs5] at hown;have hL2:=own2.sl) | (go_at_call 59;refine (q.out _ (by (try simp only [qcj]);repeat (first | exact Bel.refl _ | assumption | refine qcs ?_ _ | refine qct ?_ _ | refine Bel.ext ?_ _ | refine Bel.alloc ?_ _ | refine Bel.drewN ?_ _))).mono ?_;rintro e W1 ⟨A2,c2,rfl,hx2⟩;have own2:=qiv hx2;have hb0:=q9k (qiu hx2);have hb1:Bel w W1:=(by refine Bel.trans ?_ hb0;exact (by (try simp only [qcj]);repeat (first | exact Bel.refl _ | assumption | refine qcs ?_ _ | refine qct ?_ _ | refine Bel.ext ?_ _ | refine Bel.alloc ?_ _ | refine Bel.drewN ?_ _)));clear hx2 hb0))
    clear own2
    go_loopw [25] (fun i wr=>∃ (k:Nat) (y:Beyond),k≤m.length∧i=.int .i64 k∧wr=ext W1 y∧Own (ext W1 y) W1.heap.size 3 1 (some ⟨g,0,none⟩) m.length m.length (qs0 m k)) (fun i _=>m.length - (intOf i).toNat)
    case atStart=>exact ⟨0,y,Nat.zero_le _,rfl,rfl,by simpa [qs0,vi] using hown⟩
    case round =>
      obtain ⟨k,y3,hk,rfl,rfl,own3⟩:=hrel
      by_cases hlt:k<m.length
      · obtain ⟨p, hp⟩ : ∃ p, m[k]? = some p := ⟨_, List.getElem?_eq_getElem hlt⟩
        have HS:=Lib.hid (qs1 hp)
        have b0:=qfj own3 (qs2 hlt)
        have z0:=qfk own3 k
        obtain ⟨b,o,rfl,hb2⟩:=hL2.at_ (by omega)
        obtain ⟨r0,r1,r2⟩:=qgz (hL2.bel (w':=ext W1 y3) (q9j _ _)) hp
        have hlt':(k:Int)<(m.length:Int):=by omega
        have hgs:=own3.ats.2
        have hb3:b<(ext W1 y3).heap.size:=by simp [go_sem];omega
        have hb4:Bel W1 (ext W1 y3):=q9j _ _
        clear hp hown
        generalize ext W1 y3=V at *
        have hgne:¬ g=V.heap.size:=by omega
        have hgne':¬ V.heap.size=g:=by omega
        go_wp2
        go_roundw
        case rel =>
          obtain ⟨y5,hy5,own5⟩:=qg8 (w:=W1) ((hb4.setCell (p:=⟨g,k,none⟩) hg (.int .i64 p.id)).alloc (.cells #[.int .i64 p.id,.int .i64 p.a,.int .i64 p.b] 42)) (World.ownsRow.stored own3 k (.int .i64 p.id)).1 ((Bel.refl _).alloc _)
          rw [HS.out] at own5
          exact ⟨k+1,y5,by omega,by go_num,hy5,own5⟩
        case measure=>(first | (simp [intOf];done) | (simp [intOf];omega))
      · obtain rfl : k = m.length := by omega
        rw [qs3] at own3
        go_wp2
        go_ret2
        exact ⟨some ⟨g,0,none⟩,m.length,rfl,qg8 (by (try simp only [qcj]);repeat (first | exact Bel.refl _ | assumption | refine qcs ?_ _ | refine qct ?_ _ | refine Bel.ext ?_ _ | refine Bel.alloc ?_ _ | refine Bel.drewN ?_ _)) (own3.base_le hb1.size) (Bel.refl _)⟩
  · rw [if_pos h]
    have h':(v != 0)=true:=by simpa using h
    clear h hn hd
    go_enter Try.func35,Try.ntmps35
    go_wp2_with (go_at_call 59;refine (q.out _ (by (try simp only [qcj]);repeat (first | exact Bel.refl _ | assumption | refine qcs ?_ _ | refine qct ?_ _ | refine Bel.ext ?_ _ | refine Bel.alloc ?_ _ | refine Bel.drewN ?_ _))).mono ?_;rintro e _ ⟨A2,c2,rfl,x2,rfl,own2⟩)
    go_ret2
    exact ⟨none,0,rfl,qg8 (by (try simp only [qcj]);repeat (first | exact Bel.refl _ | assumption | refine qcs ?_ _ | refine qct ?_ _ | refine Bel.ext ?_ _ | refine Bel.alloc ?_ _ | refine Bel.drewN ?_ _)) (Own.nil_ _ _ _ _) (Bel.refl _)⟩
end Go.Proofs.Ytpgpbhjkgciggaa

namespace Go.Pel
open Go Go.RowKit
end Go.Pel
namespace Go.Proofs.Ytpgpbhjkgciggaa
open Go.RowKit Go.Pel
end Go.Proofs.Ytpgpbhjkgciggaa

namespace Go.Pel
open Go Go.RowKit
def qsf (l:List Pt) (n d:Int):Int:=if qh2 l≠0 then qh2 l else qe0 n d
end Go.Pel
namespace Go.Proofs.Ytpgpbhjkgciggaa
open Go.RowKit Go.Pel
set_option maxRecDepth 10000 in
set_option maxHeartbeats 2000000 in
theorem qsg (A:Option Addr) (c:Nat) (l:List Pt) (n d:Int) (w:World) (hn:-9223372036854775808≤n∧n≤9223372036854775807) (hd:-9223372036854775808≤d∧d≤9223372036854775807) (hs:Sl w 3 A l.length c (vp l)) (hl:l.length≤1000000) :
    Calls Try.prog 34 #[.agg #[.slice A l.length c],.agg #[.int .i64 n,.int .i64 d]] w fun e w'=>e=.returned (.int .i64 (qsf l n d))∧∃ x,w'=ext w x:=by
  have q:=Lib.hid (fun W hb=>qmt A c l W (hs.bel (w':=W) hb))
  have q2:=Lib.hid (fun W=>qkx n d W hn hd)
  unfold qsf
  generalize qh2 l=v at q ⊢
  by_cases h:v=0
  · subst h
    rw [if_neg (by decide)]
    clear hn hd
    go_enter Try.func34,Try.ntmps34
    go_wp2_with (first | (go_at_call 30;refine (q.out _ (by (try simp only [qcj]);repeat (first | exact Bel.refl _ | assumption | refine qcs ?_ _ | refine qct ?_ _ | refine Bel.ext ?_ _ | refine Bel.alloc ?_ _ | refine Bel.drewN ?_ _))).mono ?_;rintro e _ ⟨rfl,nx,rfl⟩) | (go_at_call 52;refine (q2.out _).mono ?_;rintro e _ ⟨rfl,nx,rfl⟩))
    (go_ret;exact ⟨qkq (by rfl),ext_of (by (try simp only [qcj]);repeat (first | exact Bel.refl _ | assumption | refine qcs ?_ _ | refine qct ?_ _ | refine Bel.ext ?_ _ | refine Bel.alloc ?_ _ | refine Bel.drewN ?_ _))⟩)
  · rw [if_pos h]
    have h':(v != 0)=true:=by simpa using h
    clear h hn hd
    go_enter Try.func34,Try.ntmps34
    go_wp2_with (first | (go_at_call 30;refine (q.out _ (by (try simp only [qcj]);repeat (first | exact Bel.refl _ | assumption | refine qcs ?_ _ | refine qct ?_ _ | refine Bel.ext ?_ _ | refine Bel.alloc ?_ _ | refine Bel.drewN ?_ _))).mono ?_;rintro e _ ⟨rfl,nx,rfl⟩) | (go_at_call 52;refine (q2.out _).mono ?_;rintro e _ ⟨rfl,nx,rfl⟩))
    (go_ret;exact ⟨qkq (by rfl),ext_of (by (try simp only [qcj]);repeat (first | exact Bel.refl _ | assumption | refine qcs ?_ _ | refine qct ?_ _ | refine Bel.ext ?_ _ | refine Bel.alloc ?_ _ | refine Bel.drewN ?_ _))⟩)
end Go.Proofs.Ytpgpbhjkgciggaa

namespace Go.Proofs.Ytpgpbhjkgciggaa
open Go.RowKit Go.Pel
end Go.Proofs.Ytpgpbhjkgciggaa

namespace Go.Pel
open Go Go.RowKit
end Go.Pel
namespace Go.Proofs.Ytpgpbhjkgciggaa
open Go.RowKit Go.Pel
end Go.Proofs.Ytpgpbhjkgciggaa

namespace Go.Tx
open Go Go.Sort Go.RowKit Go.Proofs Go.Shelf
theorem qsn {α:Type} [Inhabited α] (enc:α→List Value) (k:Nat) (hk:∀ x,(enc x).length=k):∀ (l:List α),(flatK enc k l.toArray).toList=l.flatMap enc:=by
  intro l
  have key:∀ (l:List α) (t:Nat),t<l.length*k→(l.flatMap enc)[t]?=some ((enc l[t / k]!)[t % k]!):=by
    intro l
    induction l with
    | nil=>intro t ht;simp at ht
    | cons a r ih =>
      intro t ht
      have k0:0<k:=by
        rcases Nat.eq_zero_or_pos k with h | h
        · subst h;simp at ht
        · exact h
      rw [List.flatMap_cons]
      by_cases hlt:t<k
      · rw [List.getElem?_append_left (by rw [hk]; exact hlt), Nat.div_eq_of_lt hlt, Nat.mod_eq_of_lt hlt]
        have:t<(enc a).length:=by rw [hk];exact hlt
        simp [this]
      · rw [List.getElem?_append_right (by rw [hk]; omega), hk]
        have h2:t - k<r.length*k:=by
          rw [List.length_cons,Nat.add_mul,Nat.one_mul] at ht;omega
        rw [ih (t - k) h2]
        have e1:t / k=(t - k) / k+1:=by
          have:=Nat.div_eq_sub_div k0 (by omega:k≤t)
          omega
        have e2:t % k=(t - k) % k:=Nat.mod_eq_sub_mod (by omega)
        rw [e1,e2]
        simp
  have hlen:(l.flatMap enc).length=l.length*k:=by
    induction l with
    | nil=>simp
    | cons a r ih=>rw [List.flatMap_cons,List.length_append,ih,hk,List.length_cons,Nat.add_mul,Nat.one_mul];omega
  apply List.ext_getElem?
  intro t
  by_cases ht:t<l.length*k
  · rw [key l t ht]
    simp [flatK,ht]
  · rw [List.getElem?_eq_none (by simp [flatK];omega),List.getElem?_eq_none (by rw [hlen];omega)]
def eqR:(τ:Row)→den τ→den τ→Bool
  | .nil,_,_=>true
  | .int _ r,x,y=>x.1 == y.1&&eqR r x.2 y.2
  | .bool r,x,y=>x.1 == y.1&&eqR r x.2 y.2
  | .sl _ _,_,_=>false
theorem qso:∀ (τ:Row) (x y:den τ),eqR τ x y=true→x=y
  | .nil,_,_,_=>rfl
  | .int k r, x, y, h => by
    rw [eqR,Bool.and_eq_true,beq_iff_eq] at h
    exact Prod.ext h.1 (qso r x.2 y.2 h.2)
  | .bool r, x, y, h => by
    rw [eqR,Bool.and_eq_true,beq_iff_eq] at h
    exact Prod.ext h.1 (qso r x.2 y.2 h.2)
  | .sl _ _,_,_,h=>by cases h
section
variable {τ:Row} (F:den τ×den τ×Unit→Option Int)
def cmpV (x y:den τ):Int:=match F (x,y,()) with | some n=>n | none=>0
def ltV (x y:den τ):Bool:=decide (cmpV F x y<0)
def qsp (xs:List (den τ)):Bool :=
  xs.all (fun x=>xs.all fun y=>(F (x,y,())).isSome)&&xs.all (fun x=>!(ltV F x x)) &&
  xs.all (fun x=>xs.all fun y=>!(ltV F x y) || xs.all fun z=>!(ltV F y z) || ltV F x z) &&
  xs.all (fun x=>xs.all fun y=>ltV F x y || xs.all fun z=>ltV F y z || !(ltV F x z)) &&
  xs.all (fun x=>xs.all fun y=>ltV F x y || ltV F y x || eqR τ x y)
end
def insL {α:Type} (lt:α→α→Bool) (x:α):List α→List α
  | []=>[x]
  | y :: ys=>bif lt x y then x :: y :: ys else y :: insL lt x ys
def qsq {α:Type} (lt:α→α→Bool):List α→List α
  | []=>[]
  | x :: xs=>insL lt x (qsq lt xs)
def qsr {τ:Row} (F:den τ×den τ×Unit→Option Int) (xs:List (den τ)):Option (List (den τ)):=bif Nat.ble xs.length 1000000&&qsp F xs then some (qsq (ltV F) xs) else none
theorem qss {α:Type} (lt:α→α→Bool) (x:α):∀ l:List α,(insL lt x l).Perm (x :: l)
  | []=>.refl _
  | y :: ys => by
    rw [insL]
    cases lt x y with
    | true=>exact .refl _
    | false=>exact ((qss lt x ys).cons y).trans (.swap x y ys)
theorem qst {α:Type} (lt:α→α→Bool):∀ l:List α,(qsq lt l).Perm l
  | []=>.refl _
  | x :: xs=>by rw [qsq];exact (qss lt x _).trans ((qst lt xs).cons x)
theorem qsu {α:Type} {lt:α→α→Bool} {S:α→Prop} (has:∀ a b,S a→S b→lt a b=true→lt b a=false) (hn:∀ a b c,S a→S b→S c→lt a b=false→lt b c=false→lt a c=false) {x:α} (hx:S x):∀ l:List α,(∀ a∈l,S a)→l.Pairwise (fun a b=>lt b a=false)→(insL lt x l).Pairwise (fun a b=>lt b a=false)
  | [],_,_=>List.pairwise_singleton _ _
  | y :: ys, hS, hp => by
    obtain ⟨h1,h2⟩:=List.pairwise_cons.1 hp
    have hy:=hS y (List.mem_cons_self ..)
    rw [insL]
    cases hl:lt x y with
    | true =>
      refine List.pairwise_cons.2 ⟨fun b hb=>?_,hp⟩
      have hyx:=has x y hx hy hl
      rcases List.mem_cons.1 hb with rfl | hb
      · exact hyx
      · exact hn b y x (hS b (List.mem_cons_of_mem _ hb)) hy hx (h1 b hb) hyx
    | false =>
      refine List.pairwise_cons.2 ⟨fun b hb=>?_,qsu has hn hx ys (fun a ha=>hS a (List.mem_cons_of_mem _ ha)) h2⟩
      rcases List.mem_cons.1 ((qss lt x ys).mem_iff.1 hb) with rfl | hb
      · exact hl
      · exact h1 b hb
theorem qsv {α:Type} {lt:α→α→Bool} {S:α→Prop} (has:∀ a b,S a→S b→lt a b=true→lt b a=false) (hn:∀ a b c,S a→S b→S c→lt a b=false→lt b c=false→lt a c=false):∀ l:List α,(∀ a∈l,S a)→(qsq lt l).Pairwise (fun a b=>lt b a=false)
  | [],_=>.nil
  | x :: xs, hS => by
    rw [qsq]
    exact qsu has hn (hS x (List.mem_cons_self ..)) _ (fun a ha=>hS a (List.mem_cons_of_mem _ ((qst lt xs).mem_iff.1 ha))) (qsv has hn xs fun a ha=>hS a (List.mem_cons_of_mem _ ha))
theorem qsx {η:Emb}:∀ (τ:Row) (x:den τ),qcv τ=true→VRs η (split τ x) (qhy τ x)
  | .nil,_,_=>VRs.nil
  | .int k r,x,hp=>VRs.cons (.int _ _) (qsx r x.2 hp)
  | .bool r,x,hp=>VRs.cons (.bool _) (qsx r x.2 hp)
  | .sl e r,_,hp=>by cases hp
theorem qsy:∀ (τ:Row) (x:den τ),qcv τ=true→∀ v∈qhy τ x,v.oneCell'=true
  | .nil,_,_,v,hv=>by simp [qhy] at hv
  | .int k r, x, hp, v, hv => by
    rw [qhy] at hv
    rcases List.mem_cons.1 hv with rfl | hv
    · rfl
    · exact qsy r x.2 hp v hv
  | .bool r, x, hp, v, hv => by
    rw [qhy] at hv
    rcases List.mem_cons.1 hv with rfl | hv
    · rfl
    · exact qsy r x.2 hp v hv
  | .sl e r,_,hp,_,_=>by cases hp
theorem qsz {η:Emb} {τ:Row} (hp:qcv τ=true):∀ xs:List (den τ),VRs η (flat τ xs) (qhz τ xs)
  | []=>VRs.nil
  | x :: xs=>by rw [flat,qhz];exact (qsx τ x hp).append (qsz hp xs)
theorem qt0 {η:Emb} {τ:Row} (hp:qcv τ=true) (xs:List (den τ)) (j:Nat) (c:LV) (hc:(flat τ xs)[j]?=some c) (v:Value) (hv:VR η c v):(qhz τ xs)[j]?=some v:=by
  have hl:=(qsz (η:=η) hp xs).1
  have hj:j<(qhz τ xs).length:=by rw [← hl];exact (List.getElem?_eq_some_iff.1 hc).1
  obtain ⟨u,hu⟩:∃ u,(qhz τ xs)[j]?=some u:=⟨_,List.getElem?_eq_getElem hj⟩
  have h2:=(qsz (η:=η) hp xs).2 j c u hc hu
  obtain ⟨x,hx⟩:=q83 τ xs (List.mem_of_getElem? hc)
  have:u=v:=by
    have hp2:∀ (σ:Row) (y:den σ),qcv σ=true→∀ d∈split σ y,(∃ k n,d=.int k n) ∨ ∃ b,d=.bool b:=by
      intro σ
      induction σ with
      | nil=>intro y _ d hd;simp [split] at hd
      | int k r ih =>
        intro y hpp d hd
        rw [split] at hd
        rcases List.mem_cons.1 hd with rfl | hd
        · exact .inl ⟨_,_,rfl⟩
        · exact ih y.2 hpp d hd
      | bool r ih =>
        intro y hpp d hd
        rw [split] at hd
        rcases List.mem_cons.1 hd with rfl | hd
        · exact .inr ⟨_,rfl⟩
        · exact ih y.2 hpp d hd
      | sl e r _ _=>intro y hpp;cases hpp
    rcases hp2 τ x hp c hx with ⟨k,n,rfl⟩ | ⟨b,rfl⟩
    · cases h2;cases hv;rfl
    · cases h2;cases hv;rfl
  rw [hu,this]
theorem qt1 {τ:Row}:∀ xs:List (den τ),qhz τ xs=xs.flatMap (qhy τ)
  | []=>rfl
  | x :: xs=>by rw [qhz,List.flatMap_cons,qt1 xs]
theorem qt2 {M:Nat} {H:LH} {η:Emb} {w w':World} (h:HR M η H w) {b:Nat} {τ:Row} {xs ys:List (den τ)} (hg:H.get b=some (.rows τ xs)) (hlv:Lv η w' b (.rows τ ys)) (hs:w.heap.size≤w'.heap.size)
    (hother:∀ k,k<w.heap.size→(∀ L,η.loc b=some L→k≠L.block)→w'.heap[k]?=w.heap[k]?) (e1:w'.os=w.os) (e2:w'.tape=w.tape) (e3:w'.output=w.output) (e4:w.drawn≤w'.drawn) :
    Adv M H η w (H.put b (some (.rows τ ys))) η w':=by
  have hget:∀ x ob2,(H.put b (some (.rows τ ys))).get x=some ob2→(x=b∧ob2=.rows τ ys)∨(x≠b∧H.get x=some ob2):=fun x ob2 hx=>by
    rw [LH.get_put] at hx
    split at hx
    · rename_i he;injection hx with hx;exact .inl ⟨he,hx.symm⟩
    · rename_i he;exact .inr ⟨he,hx⟩
  have hg0:∀ x ob2,(H.put b (some (.rows τ ys))).get x=some ob2→∃ ob0,H.get x=some ob0:=fun x ob2 hx=>by
    rcases hget x ob2 hx with ⟨rfl,_⟩ | ⟨_,hg'⟩
    · exact ⟨_,hg⟩
    · exact ⟨_,hg'⟩
  have hlb:∀ k,LB (H.put b (some (.rows τ ys))) η k→LB H η k:=fun k ⟨x,ob2,L',hx,hL',hk⟩=>let ⟨ob0,hg'⟩:=hg0 _ _ hx;⟨x,ob0,L',hg',hL',hk⟩
  refine ⟨Emb.le_refl _,fun _ _=>⟨rfl,rfl⟩,Nat.le_refl _,⟨h.dom,fun x ob2 hx=>let ⟨_,hg'⟩:=hg0 x ob2 hx;h.lt x _ hg',fun x ob2 hx=>?_,fun b1 b2 c1 c2 L1 L2 h1 h2 f1 f2 he=>?_,fun k o2 hk=>?_,fun k hk=>h.sep k (hlb k hk),h.ok⟩,hs,fun k hk hn=>hother k hk fun L hL he=>hn ⟨b,_,L,hg,hL,he.symm⟩,
    fun k hk=>.inl (hlb k hk),fun _ _ hk=>.inl hk,e1,e2,e3,e4⟩
  · rcases hget x ob2 hx with ⟨rfl, rfl⟩ | ⟨hne, hg'⟩
    · exact hlv
    · have hl := h.live x ob2 hg'
      exact hl.move (Emb.le_refl _) rfl hs fun L' hL'=>hother _ (hl.lt hL') fun L hL he=>hne (h.inj _ _ _ _ _ _ hg' hg hL' hL he)
  · obtain ⟨d1, g1⟩ := hg0 _ _ h1
    obtain ⟨d2,g2⟩:=hg0 _ _ h2
    exact h.inj _ _ _ _ _ _ g1 g2 f1 f2 he
  · have hk0 := h.fz k o2 hk
    rw [hother k (Array.getElem?_eq_some_iff.1 hk0).1 fun L hL he=>by
      have:=h.sep L.block ⟨b,_,L,hg,hL,rfl⟩
      rw [← he,hk] at this;cases this]
    exact hk0
section
variable {P:Program} {ρ:Ren}
theorem qt3 {τ:Row} {F:den τ×den τ×Unit→Option Int} {xs:List (den τ)} (h:qsp F xs=true) :
    (∀ x∈xs,∀ y∈xs,F (x,y,())=some (cmpV F x y))∧SWO (ltOf fun (x y:{x:den τ // x∈xs})=>cmpV F x.1 y.1)∧∀ x y:{x:den τ // x∈xs},(ltOf fun (x y:{x:den τ // x∈xs})=>cmpV F x.1 y.1) x y=false→(ltOf fun (x y:{x:den τ // x∈xs})=>cmpV F x.1 y.1) y x=false→x=y:=by
  unfold qsp at h
  simp only [Bool.and_eq_true,List.all_eq_true] at h
  obtain ⟨⟨⟨⟨h1,h2⟩,h3⟩,h4⟩,h5⟩:=h
  have e:∀ x y:{x:den τ // x∈xs},(ltOf fun (x y:{x:den τ // x∈xs})=>cmpV F x.1 y.1) x y=ltV F x.1 y.1:=fun _ _=>rfl
  refine ⟨fun x hx y hy=>?_,⟨fun x=>?_,fun x y z a b=>?_,fun x y z a b=>?_⟩,fun x y a b=>?_⟩
  · have := h1 x hx y hy
    unfold cmpV
    cases hF:F (x,y,()) with
    | none=>rw [hF] at this;cases this
    | some n=>rfl
  · have := h2 x.1 x.2
    rw [e];simpa using this
  · rw [e] at a b ⊢
    have:=h3 x.1 x.2 y.1 y.2
    rw [a] at this
    simp only [Bool.not_true,Bool.false_or,List.all_eq_true] at this
    have:=this z.1 z.2
    rw [b] at this
    simpa using this
  · rw [e] at a b ⊢
    have:=h4 x.1 x.2 y.1 y.2
    rw [a] at this
    simp only [Bool.false_or,List.all_eq_true] at this
    have:=this z.1 z.2
    rw [b] at this
    simpa using this
  · rw [e] at a b
    have:=h5 x.1 x.2 y.1 y.2
    rw [a,b] at this
    simp only [Bool.false_or] at this
    exact Subtype.ext (qso τ _ _ this)
theorem qt4 {τ:Row} {F:den τ×den τ×Unit→Option Int} {xs:List (den τ)} (h:qsp F xs=true):(xs.attach.mergeSort fun x y=>!(ltOf fun (x y:{x:den τ // x∈xs})=>cmpV F x.1 y.1) y x).map Subtype.val=qsq (ltV F) xs:=by
  obtain ⟨_,hO,hT⟩:=qt3 h
  have e:∀ x y:{x:den τ // x∈xs},(ltOf fun (x y:{x:den τ // x∈xs})=>cmpV F x.1 y.1) x y=ltV F x.1 y.1:=fun _ _=>rfl
  have has:∀ a b,a∈xs→b∈xs→ltV F a b=true→ltV F b a=false:=fun a b ha hb h1=>by
    cases h2:ltV F b a with
    | false=>rfl
    | true =>
      have h3:=hO.trans ⟨a,ha⟩ ⟨b,hb⟩ ⟨a,ha⟩ h1 h2
      rw [hO.irrefl] at h3;cases h3
  have hn:∀ a b c,a∈xs→b∈xs→c∈xs→ltV F a b=false→ltV F b c=false→ltV F a c=false:=fun a b c ha hb hc h1 h2=>hO.ntrans ⟨a,ha⟩ ⟨b,hb⟩ ⟨c,hc⟩ h1 h2
  refine List.Perm.eq_of_pairwise (le:=fun a b=>ltV F b a=false) ?_ ?_ (qsv (S:=fun a=>a∈xs) has hn xs fun _ h=>h) ?_
  · intro a b ha hb h1 h2
    have ha':a∈xs:=by
      obtain ⟨c,_,rfl⟩:=List.mem_map.1 ha
      exact c.2
    have hb':b∈xs:=(qst (ltV F) xs).mem_iff.1 hb
    exact congrArg Subtype.val (hT ⟨a,ha'⟩ ⟨b,hb'⟩ h2 h1)
  · have hp:=List.pairwise_mergeSort (le:=fun x y=>!(ltOf fun (x y:{x:den τ // x∈xs})=>cmpV F x.1 y.1) y x) (fun x y z h1 h2=>by
      simp only [Bool.not_eq_true'] at h1 h2 ⊢
      exact hO.ntrans z y x h2 h1) (fun x y=>by
      simp only [Bool.or_eq_true,Bool.not_eq_true']
      cases h1:(ltOf fun (x y:{x:den τ // x∈xs})=>cmpV F x.1 y.1) y x with
      | false=>exact .inl rfl
      | true=>exact .inr (has _ _ y.2 x.2 h1)) xs.attach
    rw [List.pairwise_map]
    exact hp.imp fun h=>by simpa [e] using h
  · have h1 := ((List.mergeSort_perm xs.attach fun x y => !(ltOf fun (x y : {x : den τ // x ∈ xs}) => cmpV F x.1 y.1) y x).map Subtype.val)
    rw [List.attach_map_subtype_val] at h1
    exact h1.trans (qst (ltV F) xs).symm
theorem qt5 {w w':World} (h:Bel w w'):∃ q os',w'=grow (w.drewN q) os':=by
  obtain ⟨x,rfl⟩:=ext_of h
  exact ⟨x.drawn,x.objs,by unfold ext grow World.drewN;rfl⟩
theorem qt6 (w:World) (m blk off:Nat) (Fv:Array Value) (os:Array Obj):w.heap.size≤(grow (putRow id (Sort.ahead w m) blk off Fv) os).heap.size:=by
  simp [grow,putRow,mapBlock,Sort.ahead]
theorem qt7 (w:World) (m blk off:Nat) (Fv:Array Value) (os:Array Obj) (k:Nat) (hk:k<w.heap.size) (hne:k≠blk):(grow (putRow id (Sort.ahead w m) blk off Fv) os).heap[k]?=w.heap[k]?:=by
  simp only [grow]
  rw [Array.getElem?_append_left (by simpa [putRow,mapBlock,Sort.ahead] using hk)]
  simp [putRow,mapBlock,Sort.ahead,Array.getElem?_modify,Ne.symm hne]
theorem qt8 (L:SlLaysF0.n6 P ρ) {τ:Row} (hp:qcv τ=true) (aE:∀ w,(isAgg (ρ.t 24)).run P w=.ok true w) (zE:∀ w,(Go.sizeOf (ρ.t 24)).run P w=.ok τ.size w) {g:FuncId} {F:den τ×den τ×Unit→Option Int}
    (hS:COK P ⟨g,[.row τ true,.row τ true],Int,F,fun r=>(.int .i64 r,[])⟩) {H:LH} {n:Nat} {xs ys:List (den τ)} (hg:H.get n=some (.rows τ xs)) (hy:qsr F xs=some ys) :
    q5d P (ρ.f 6) [.rs n,.fn g []] H (.tup [],H.put n (some (.rows τ ys))):=by
  unfold qsr at hy
  obtain ⟨hb,rfl⟩:=qdw (A:=some (qsq (ltV F) xs)) hy |>.imp id fun h=>Option.some.inj h
  rw [Bool.and_eq_true] at hb
  have hsz:=Nat.le_of_ble_eq_true hb.1
  obtain ⟨hc,hO,hT⟩:=qt3 hb.2
  refine ⟨Logged.put _ hg _,fun M η w vs h hM hv=>?_⟩
  obtain ⟨v1,vs,rfl,q1,hv⟩:=hv.uncons
  obtain ⟨v2,vs,rfl,q2,hv⟩:=hv.uncons
  obtain rfl:vs=[]:=by have:=hv.1;simpa using this.symm
  cases q1 with
  | rs hh1 =>
  have hv2:v2=.func (.func g) #[] #[]:=by
    cases q2 with
    | fn hl _=>rw [List.eq_nil_of_length_eq_zero hl.symm]
  subst hv2
  have hlen:∀ l:List (den τ),(qsq (ltV F) l).length=l.length:=fun l=>(qst (ltV F) l).length_eq
  cases h.live _ _ hg with
  | none hL hh =>
    rename_i A
    rw [hh1] at hh;injection hh with hh;subst hh
    refine Calls.mono (AnyF.slices_SortFunc_none L A 0 (.func (.func g) #[] #[]) w) ?_
    rintro e w' ⟨rfl,rfl⟩
    refine ⟨_,η,rfl,q5y,qt2 h hg ?_ (Nat.le_refl _) (fun _ _ _=>rfl) rfl rfl rfl (Nat.le_refl _)⟩
    have e0:qsq (ltV F) ([]:List (den τ))=[]:=rfl
    rw [e0]
    exact .none hL hh1
  | rows hL ha hh hcap hr =>
    rename_i L0 c
    rw [hh1] at hh;injection hh with hh;subst hh
    by_cases h0:xs=[]
    · subst h0
      refine Calls.mono (AnyF.slices_SortFunc_none L (some ⟨L0.block,L0.base,none⟩) c (.func (.func g) #[] #[]) w) ?_
      rintro e w' ⟨rfl,rfl⟩
      refine ⟨_,η,rfl,q5y,qt2 h hg ?_ (Nat.le_refl _) (fun _ _ _=>rfl) rfl rfl rfl (Nat.le_refl _)⟩
      have e0:qsq (ltV F) ([]:List (den τ))=[]:=rfl
      rw [e0]
      exact .rows hL ha hh1 hcap hr
    · haveI : Inhabited {x : den τ // x ∈ xs} := ⟨⟨xs.head h0, List.head_mem h0⟩⟩
      have eg:∀ args w,(callFunc g args).run P w=.ok (.enter g args) w:=by
        obtain ⟨fn,bd,b1,b2,b3⟩:=hS.body
        intro args w
        have b4:¬ fn.body=none:=by rw [b2];simp
        have b1':P.funcs[g]?=some fn:=b1
        simp [callFunc,b1',b3,b4]
      have hk:∀ x:{x:den τ // x∈xs},(qhy τ x.1).length=τ.size:=fun x=>qi2 τ hp x.1
      have hflat:∀ m:List {x:den τ // x∈xs},(flatK (fun x:{x:den τ // x∈xs}=>qhy τ x.1) τ.size m.toArray).toList=qhz τ (m.map Subtype.val):=fun m=>by
        rw [qsn _ _ hk,qt1,List.flatMap_map]
      have hcmp:CmpLays P g #[] (fun x:{x:den τ // x∈xs}=>qhy τ x.1) τ.size (fun x y=>cmpV F x.1 y.1) L0.block L0.base xs.attach.toArray.size w:=by
        intro m os dk _ x y
        have hF:=hc x.1 x.2 y.1 y.2
        have h2:=hS.ok (x.1,y.1,()) (cmpV F x.1 y.1) hF (sortWorldK (fun x:{x:den τ // x∈xs}=>qhy τ x.1) τ.size w L0.block L0.base m dk os) (fun _=>none) [.agg (qhy τ x.1).toArray,.agg (qhy τ y.1).toArray] (fun k ob hk=>by cases hk)
          (VRs.cons (VR.aggL (qsx τ x.1 hp)) (VRs.cons (VR.aggL (qsx τ y.1 hp)) VRs.nil))
        refine Calls.mono h2 ?_
        rintro e w' ⟨v',η',rfl,hvr,_,hfr⟩
        have hv':v'=.int .i64 (cmpV F x.1 y.1):=by
          have hvr:VR η' (.int .i64 (cmpV F x.1 y.1)) v':=hvr
          cases hvr;rfl
        rw [hv']
        exact ⟨rfl,qt5 ⟨⟨hfr.os,hfr.tape,hfr.output,hfr.size,fun k hk=>hfr.same0 k hk⟩,hfr.drawn⟩⟩
      have hfl:flatK (fun x:{x:den τ // x∈xs}=>qhy τ x.1) τ.size xs.attach.toArray=(qhz τ xs).toArray:=by
        apply Array.toList_inj.1
        rw [hflat,List.attach_map_subtype_val]
      have hfl2:∀ l:List (den τ),(flat τ l).length=(qhz τ l).length:=fun l=>(qsz (η:=η) hp l).1
      have hH:HoldsK (fun x:{x:den τ // x∈xs}=>qhy τ x.1) τ.size w L0.block L0.base xs.attach.toArray:=by
        unfold HoldsK
        rw [hfl]
        intro j hj
        have hj':j<(qhz τ xs).length:=by simpa using hj
        obtain ⟨cl,hcl⟩:∃ cl,(flat τ xs)[j]?=some cl:=⟨_,List.getElem?_eq_getElem (by rw [hfl2];exact hj')⟩
        obtain ⟨v,g1,g2⟩:=ha.cell j cl hcl
        have g3:=qt0 hp xs j cl hcl v g2
        have hf:=ha.fits
        refine ⟨?_,(ha.there (L0.base+j) (by omega) (by have:=hfl2 xs;omega)).2⟩
        rw [g1]
        congr 1
        rw [getElem!_pos _ _ (by simpa using hj')]
        have:=(List.getElem?_eq_some_iff.1 g3).2
        simp [this]
      have hcon:=AnyQ.slices_SortFunc_total L τ.size aE zE (fun x:{x:den τ // x∈xs}=>qhy τ x.1) hk (fun x v hv=>qsy τ x.1 hp v hv) (fun x y=>cmpV F x.1 y.1) hO g #[] L0.block L0.base c xs.attach.toArray w eg hcmp hH ha.lt (by simp;omega) hT
      have hats:xs.attach.toArray.size=xs.length:=by simp
      rw [hats] at hcon
      refine Calls.mono hcon ?_
      rintro e w' ⟨rfl,m,os,rfl⟩
      have hF:flatK (fun x:{x:den τ // x∈xs}=>qhy τ x.1) τ.size (xs.attach.toArray.toList.mergeSort fun x y=>!(ltOf fun (x y:{x:den τ // x∈xs})=>cmpV F x.1 y.1) y x).toArray=(qhz τ (qsq (ltV F) xs)).toArray:=by
        apply Array.toList_inj.1
        rw [hflat]
        congr 1
        have:=qt4 hb.2
        simpa using this
      unfold sortWorldK putRowK
      rw [hF]
      have hvl:(qhz τ (qsq (ltV F) xs)).length=(qhz τ xs).length:=by rw [qi3 hp,qi3 hp,hlen]
      have hyl:=hlen xs
      unfold HoldsK at hH
      rw [hfl] at hH
      generalize qsq (ltV F) xs=ys at hvl hyl ⊢
      have hfit:=ha.fits
      have hfx:=hfl2 xs
      have hfy:=hfl2 ys
      obtain ⟨W1,hW1⟩:∃ W1,putRow id (Sort.ahead w m) L0.block L0.base (qhz τ ys).toArray=W1:=⟨_,rfl⟩
      have hsz1:W1.heap.size=w.heap.size:=by rw [← hW1];simp [putRow,mapBlock,Sort.ahead]
      have hblk:(grow W1 os).heap[L0.block]?=W1.heap[L0.block]?:=by
        simp only [grow]
        rw [Array.getElem?_append_left (by rw [hsz1];exact ha.lt)]
      have hfr:∀ j,W1.frozen? ⟨L0.block,j,none⟩=w.frozen? ⟨L0.block,j,none⟩:=fun j=>by rw [← hW1,frozen?_putRow];rfl
      have hin:∀ j,j<(qhz τ ys).length→W1.cell? ⟨L0.block,L0.base+j,none⟩=some ((qhz τ ys).toArray[j]!):=fun j hj=>by
        rw [← hW1]
        exact cell?_putRow id (Sort.ahead w m) L0.block L0.base (qhz τ xs).toArray (qhz τ ys).toArray hH (by simp [hvl]) j (by simpa using hj)
      have hout:∀ j,L0.base+(qhz τ ys).length≤j→W1.cell? ⟨L0.block,j,none⟩=w.cell? ⟨L0.block,j,none⟩:=fun j hj=>by
        rw [← hW1,cell?_putRow_other id (Sort.ahead w m) L0.block L0.base (qhz τ ys).toArray ⟨L0.block,j,none⟩ (.inr (.inr (by simpa using hj)))];rfl
      have hat2:At η (grow W1 os) (flat τ ys) L0:=by
        refine ⟨?_,by omega,fun j h1 h2=>⟨?_,?_⟩,fun j c hcj=>?_⟩
        · have := ha.lt
          simp only [grow,Array.size_append];omega
        · rw [qv hblk]
          by_cases hj:j<L0.base+(qhz τ ys).length
          · have := hin (j - L0.base) (by omega)
            rw [show L0.base+(j - L0.base)=j by omega] at this
            rw [this];rfl
          · rw [hout j (by omega)];exact (ha.there j h1 h2).1
        · rw [qw hblk,hfr];exact (ha.there j h1 h2).2
        · have hj : j < (qhz τ ys).length := by rw [← hfy]; exact (List.getElem?_eq_some_iff.1 hcj).1
          refine ⟨(qhz τ ys)[j],?_,(qsz hp ys).2 j c _ hcj (List.getElem?_eq_getElem hj)⟩
          rw [qv hblk,hin j hj]
          congr 1
          rw [getElem!_pos _ _ (by simpa using hj)]
          simp
      subst hW1
      refine ⟨_,η,rfl,q5y,qt2 h hg (.rows hL hat2 (by rw [hyl];exact hh1) (by rw [hyl];exact hcap) hr) ?_ (fun k hk hne=>?_) ?_ ?_ ?_ ?_⟩
      · exact qt6 ..
      · exact qt7 _ _ _ _ _ _ k hk (hne L0 hL)
      · rfl
      · rfl
      · rfl
      · simp [grow,putRow,mapBlock,Sort.ahead]
def orcS (f g:FuncId) (τ:Row) (F:den τ×den τ×Unit→Option Int) (C:Orc):Orc:=fun h args H =>
  bif Nat.beq h f then (match args with
    | [.rs n, .fn g' []] => bif Nat.beq g' g then (match H.get n with
      | some (.rows σ xs)=>if e:σ=τ then some ⟨List (den τ),qsr F (e ▸ xs),fun r=>(.tup [],H.put n (some (.rows τ r)))⟩ else none
      | _=>none) else none
    | _=>none) else C h args H
theorem qt9 (L:SlLaysF0.n6 P ρ) {τ:Row} (hp:qcv τ=true) (aE:∀ w,(isAgg (ρ.t 24)).run P w=.ok true w) (zE:∀ w,(Go.sizeOf (ρ.t 24)).run P w=.ok τ.size w) {g:FuncId} {F:den τ×den τ×Unit→Option Int}
    (hS : COK P ⟨g, [.row τ true, .row τ true], Int, F, fun r => (.int .i64 r, [])⟩) (hbody : ∃ fn c, P.funcs[ρ.f 6]? = some fn ∧ fn.body = some c ∧ ¬ fn.name = "runtime.NumGoroutine") {C : Orc} (hC : OrcOK P C) : OrcOK P (orcS (ρ.f 6) g τ F C) := by
  have key:∀ h args H p,orcS (ρ.f 6) g τ F C h args H=some p→(C h args H=some p)∨(h=ρ.f 6∧∃ n xs,args=[.rs n,.fn g []]∧H.get n=some (.rows τ xs)∧p=⟨List (den τ),qsr F xs,fun r=>(.tup [],H.put n (some (.rows τ r)))⟩):=by
    intro h args H p hp
    unfold orcS at hp
    rw [Bool.cond_eq_ite] at hp
    split at hp
    · rename_i he
      have he:=Nat.eq_of_beq_eq_true he
      split at hp
      · rename_i n g'
        rw [Bool.cond_eq_ite] at hp
        split at hp
        · rename_i hg
          have hg:=Nat.eq_of_beq_eq_true hg
          subst hg
          split at hp
          · rename_i σ xs hn
            split at hp
            · rename_i e
              subst e
              injection hp with hp
              exact .inr ⟨he,n,xs,rfl,hn,hp.symm⟩
            · cases hp
          · cases hp
        · cases hp
      · cases hp
    · exact .inl hp
  refine ⟨fun h args H p x hp' hx=>?_⟩
  rcases key h args H p hp' with h1 | ⟨rfl,n,xs,rfl,hn,rfl⟩
  · exact hC.call h args H p x h1 hx
  · exact .inl ⟨qt8 L hp aE zE hS hn hx,hbody⟩
end
end Go.Tx

namespace Go.Proofs.Ytpgpbhjkgciggaa
open Go Go.Tx Go.RowKit Go.Pel
end Go.Proofs.Ytpgpbhjkgciggaa

namespace Go.Pel
open Go Go.Tx
theorem qtc {l:List Pt} (h:incB l=true):(l.map Pt.id).Nodup:=by
  unfold List.Nodup
  rw [List.pairwise_iff_getElem]
  intro i j hi hj hij
  simp only [List.length_map] at hi hj
  have:=qh1 h hij (List.getElem?_eq_getElem hi) (List.getElem?_eq_getElem hj)
  simp;omega
theorem qtd (p q:Pt) (n d:Int):qld p q n d=true↔(q.a*d+q.b*n<p.a*d+p.b*n)∨(q.a*d+q.b*n=p.a*d+p.b*n∧(q.b<p.b∨(q.b=p.b∧p.id<q.id))):=by
  have e:farD p q n d=(p.a*d+p.b*n) - (q.a*d+q.b*n):=by unfold farD;rw [Int.sub_mul,Int.sub_mul];omega
  unfold qld
  rw [e]
  generalize p.a*d+p.b*n=P
  generalize q.a*d+q.b*n=Q
  repeat' split
  all_goals simp only [decide_eq_true_eq]
  all_goals omega
def ordI (n d:Int) (l:List Pt):List Pt:=qsq (fun p q=>qld p q n d) l
def qte (l:List Pt) (n d:Int):List Int×Int:=if qh2 l≠0 then ([],qh2 l) else if qe0 n d≠0 then ([],qe0 n d) else ((ordI n d l).map Pt.id,0)
theorem qtf (n d:Int) (l:List Pt):(ordI n d l).Perm l:=qst _ l
theorem qtg {p q:Pt} {n d:Int} (h:qld p q n d=false):¬ ((q.a*d+q.b*n<p.a*d+p.b*n)∨(q.a*d+q.b*n=p.a*d+p.b*n∧(q.b<p.b∨(q.b=p.b∧p.id<q.id)))):=by
  intro k;rw [(qtd p q n d).2 k] at h;cases h
theorem qth (n d:Int) (l:List Pt):(ordI n d l).Pairwise fun p q=>qld q p n d=false:=by
  refine qsv (S:=fun _=>True) (fun a b _ _ h=>?_) (fun a b c _ _ _ h1 h2=>?_) l (fun _ _=>trivial)
  · rw [qtd] at h
    rw [← Bool.not_eq_true,qtd];omega
  · have h1 := qtg h1
    have h2:=qtg h2
    rw [← Bool.not_eq_true,qtd];omega
theorem qti {n d:Int} {l:List Pt} (hinc:incB l=true) (hd:1≤d):qrj n d l=ordI n d l:=by
  refine List.Perm.eq_of_pairwise (le:=fun p q=>qld q p n d=false) ?_ ((qrm (qrw hinc) (qtc hinc)).imp fun {a b} h=>?_) (qth n d l) ((qrk n d l).trans (qtf n d l).symm)
  · intro a b _ _ h k
    have h1:=qtg h
    have h2:=qtg k
    have e1:a.b=b.b:=by omega
    have e2:a.id=b.id:=by omega
    have e3:a.a*d+a.b*n=b.a*d+b.b*n:=by omega
    rw [e1] at e3
    have e4:a.a*d=b.a*d:=by omega
    have e5:=Int.eq_of_mul_eq_mul_right (by omega) e4
    obtain ⟨x,y,z⟩:=a
    obtain ⟨x',y',z'⟩:=b
    simp only at e1 e2 e5
    subst e1 e2 e5
    rfl
  · rw [qtd] at h
    rw [← Bool.not_eq_true,qtd];omega
theorem qtj (l:List Pt) (n d:Int):qrz l n d=qte l n d:=by
  unfold qrz qrv qte
  by_cases h1:qh2 l=0
  · simp only [h1, ne_eq, not_true_eq_false, if_false]
    by_cases h2:qe0 n d=0
    · simp only [h2, ne_eq, not_true_eq_false, if_false]
      rw [qti (qh7 h1).2.2 (qe7 h2).1]
    · simp only [h2,ne_eq,not_false_eq_true,if_true]
  · simp only [h1,ne_eq,not_false_eq_true,if_true]
end Go.Pel

namespace Go.Proofs.Ytpgpbhjkgciggaa
open Go Go.Tx Go.Pel Go.Proofs.Try
set_option maxRecDepth 100000
set_option maxHeartbeats 0
abbrev qtk:List Pk:=[.row Riii true,.row Riii true,.row Rii true]
abbrev qtl:Type:=Diii×Diii×Dii×Unit
abbrev qtm:Type:=Int
def qtn (r:qtm):LV×List Ob:=(.int .i64 r,[])
def qto (F:qtl→Option qtm):Go.Tx.Spec:=⟨49,qtk,qtm,F,qtn⟩
def qtp (x:qtl):Bool:=qn3 (ofP x.1) (ofP x.2.1) x.2.2.1.1 x.2.2.1.2.1
def qtq (d:Nat) (x:qtl):Option qtm:=bif qtp x then some (cmpC (ofP x.1) (ofP x.2.1) x.2.2.1.1 x.2.2.1.2.1) else none
theorem qtr (d:Nat) (x:qtl) (h:qtp x=true):qtq d x=some (cmpC (ofP x.1) (ofP x.2.1) x.2.2.1.1 x.2.2.1.2.1):=by unfold qtq;rw [h];rfl
theorem qts (d:Nat):COK prog (qto (qtq d)):=by
 refine qii (qij (fn:=f49) (by kernel_rfl) (by kernel_rfl) (by kernel_rfl)) fun x r hx w φ vs hφ hv=>?_
 have hx:qtq d x=some r:=hx
 unfold qtq at hx
 obtain ⟨hc,rfl⟩:=qjy hx
 have hv:VRs (Emb.fro φ) [.agg [.int .i64 x.1.1,.int .i64 x.1.2.1,.int .i64 x.1.2.2.1],.agg [.int .i64 x.2.1.1,.int .i64 x.2.1.2.1,.int .i64 x.2.1.2.2.1],.agg [.int .i64 x.2.2.1.1,.int .i64 x.2.2.1.2.1]] vs:=hv
 obtain ⟨v0,vs,rfl,q0,hv⟩:=VRs.uncons hv
 obtain ⟨v1,vs,rfl,q1,hv⟩:=VRs.uncons hv
 obtain ⟨v2,rfl,q2⟩:=vrs1 hv
 have r0:=qib (p:=x.1) q0;subst r0
 have r1:=qib (p:=x.2.1) q1;subst r1
 have r2:=qic q2;subst r2
 unfold qtp at hc
 have h1:=hc
 refine (qm9 (ofP x.1) (ofP x.2.1) x.2.2.1.1 x.2.2.1.2.1 w (qn4 h1)).mono ?_
 rintro e w' ⟨rfl,y,rfl⟩
 exact qig hφ (.int _ _) y
abbrev qtt:List Pk:=[.row qka true,.row Ri false]
abbrev qtu:Type:=qkb×Di×Unit
abbrev qtv:Type:=Int×Int×Int×Int
def qtw (r:qtv):LV×List Ob:=(.tup [.agg [.int .i64 r.1,.int .i64 r.2.1,.int .i64 r.2.2.1],.int .i64 r.2.2.2],[])
def qtx (F:qtu→Option qtv):Go.Tx.Spec:=⟨36,qtt,qtv,F,qtw⟩
def qty (x:qtu):Bool:=true
def qtz (d:Nat) (x:qtu):Option qtv:=bif qty x then some ((qhk (ptsL x.1.1) x.2.1.1).1.id,(qhk (ptsL x.1.1) x.2.1.1).1.a,(qhk (ptsL x.1.1) x.2.1.1).1.b,(qhk (ptsL x.1.1) x.2.1.1).2) else none
theorem qu0 (d:Nat) (x:qtu) (h:qty x=true):qtz d x=some ((qhk (ptsL x.1.1) x.2.1.1).1.id,(qhk (ptsL x.1.1) x.2.1.1).1.a,(qhk (ptsL x.1.1) x.2.1.1).1.b,(qhk (ptsL x.1.1) x.2.1.1).2):=by unfold qtz;rw [h];rfl
theorem qu1 (d:Nat):COK prog (qtx (qtz d)):=by
 refine qii (qij (fn:=f36) (by kernel_rfl) (by kernel_rfl) (by kernel_rfl)) fun x r hx w φ vs hφ hv=>?_
 have hx:qtz d x=some r:=hx
 unfold qtz at hx
 obtain ⟨hc,rfl⟩:=qjy hx
 have hv:VRs (Emb.fro φ) [.agg [.fz RP x.1.1],.int .i64 x.2.1.1] vs:=hv
 obtain ⟨v0,vs,rfl,q0,hv⟩:=VRs.uncons hv
 obtain ⟨v1,rfl,q1⟩:=vrs1 hv
 obtain ⟨A0,c0,rfl,s0,z0⟩:=qjt hφ q0
 have r1:=qid q1;subst r1
 refine (qra A0 c0 (ptsL x.1.1) x.2.1.1 w s0).mono ?_
 rintro e w' ⟨rfl,y,rfl⟩
 exact qig hφ (VR.tupL (VRs.cons (VR.aggL (VRs.cons (.int _ _) (VRs.cons (.int _ _) (VRs.cons (.int _ _) VRs.nil)))) (VRs.cons (.int _ _) VRs.nil))) y
abbrev qu2:List Pk:=[.row qka true,.row Rii true]
abbrev qu3:Type:=qkb×Dii×Unit
abbrev qu4:Type:=Int
def qu5 (r:qu4):LV×List Ob:=(.int .i64 r,[])
def qu6 (F:qu3→Option qu4):Go.Tx.Spec:=⟨34,qu2,qu4,F,qu5⟩
def qu7 (x:qu3):Bool:=i64B x.2.1.1&&i64B x.2.1.2.1&&decide ((ptsL x.1.1).length≤1000000)
def qu8 (d:Nat) (x:qu3):Option qu4:=bif qu7 x then some (qsf (ptsL x.1.1) x.2.1.1 x.2.1.2.1) else none
theorem qu9 (d:Nat) (x:qu3) (h:qu7 x=true):qu8 d x=some (qsf (ptsL x.1.1) x.2.1.1 x.2.1.2.1):=by unfold qu8;rw [h];rfl
theorem qua (d:Nat):COK prog (qu6 (qu8 d)):=by
 refine qii (qij (fn:=f34) (by kernel_rfl) (by kernel_rfl) (by kernel_rfl)) fun x r hx w φ vs hφ hv=>?_
 have hx:qu8 d x=some r:=hx
 unfold qu8 at hx
 obtain ⟨hc,rfl⟩:=qjy hx
 have hv:VRs (Emb.fro φ) [.agg [.fz RP x.1.1],.agg [.int .i64 x.2.1.1,.int .i64 x.2.1.2.1]] vs:=hv
 obtain ⟨v0,vs,rfl,q0,hv⟩:=VRs.uncons hv
 obtain ⟨v1,rfl,q1⟩:=vrs1 hv
 obtain ⟨A0,c0,rfl,s0,z0⟩:=qjt hφ q0
 have r1:=qic q1;subst r1
 unfold qu7 at hc
 simp only [Bool.and_eq_true] at hc
 obtain ⟨⟨h1,h2⟩,h3⟩:=hc
 replace h3:=of_decide_eq_true h3
 refine (qsg A0 c0 (ptsL x.1.1) x.2.1.1 x.2.1.2.1 w (qjv h1) (qjv h2) s0 h3).mono ?_
 rintro e w' ⟨rfl,y,rfl⟩
 exact qig hφ (.int _ _) y
abbrev qub:List Pk:=[.row qka true,.row Rii true]
abbrev quc:Type:=qkb×Dii×Unit
abbrev qud:Type:=List Di×Int
def que (r:qud):LV×List Ob:=(.tup [.rs 0,.int .i64 r.2],[.rows Ri r.1])
def quf (F:quc→Option qud):Go.Tx.Spec:=⟨35,qub,qud,F,que⟩
def qug (x:quc):Bool:=i64B x.2.1.1&&i64B x.2.1.2.1&&decide ((ptsL x.1.1).length≤1000000)
def quh (d:Nat) (x:quc):Option qud:=bif qug x then some (unI (qte (ptsL x.1.1) x.2.1.1 x.2.1.2.1).1,(qte (ptsL x.1.1) x.2.1.1 x.2.1.2.1).2) else none
theorem qui (d:Nat) (x:quc) (h:qug x=true):quh d x=some (unI (qte (ptsL x.1.1) x.2.1.1 x.2.1.2.1).1,(qte (ptsL x.1.1) x.2.1.1 x.2.1.2.1).2):=by unfold quh;rw [h];rfl
theorem quj (d:Nat):COK prog (quf (quh d)):=by
 refine qii (qij (fn:=f35) (by kernel_rfl) (by kernel_rfl) (by kernel_rfl)) fun x r hx w φ vs hφ hv=>?_
 have hx:quh d x=some r:=hx
 unfold quh at hx
 obtain ⟨hc,rfl⟩:=qjy hx
 have hv:VRs (Emb.fro φ) [.agg [.fz RP x.1.1],.agg [.int .i64 x.2.1.1,.int .i64 x.2.1.2.1]] vs:=hv
 obtain ⟨v0,vs,rfl,q0,hv⟩:=VRs.uncons hv
 obtain ⟨v1,rfl,q1⟩:=vrs1 hv
 obtain ⟨A0,c0,rfl,s0,z0⟩:=qjt hφ q0
 have r1:=qic q1;subst r1
 unfold qug at hc
 simp only [Bool.and_eq_true] at hc
 obtain ⟨⟨h1,h2⟩,h3⟩:=hc
 replace h3:=of_decide_eq_true h3
 refine ((qtj (ptsL x.1.1) x.2.1.1 x.2.1.2.1) ▸ qs6 A0 c0 (ptsL x.1.1) x.2.1.1 x.2.1.2.1 w (qjv h1) (qjv h2) s0 z0 h3).mono ?_
 rintro e w' ⟨A',c',rfl,y,rfl,ho⟩
 exact qih hφ (τ:=Ri) rfl (qjo _) ho (qjr _) fun η e0=>VR.tupL (VRs.cons (.rs e0) (VRs.cons (.int _ _) VRs.nil))
end Go.Proofs.Ytpgpbhjkgciggaa

namespace Go.Proofs
open Go.Shelf
def Try.laysSortR_ren:Go.Shelf.Ren:=⟨fun | 6=>23 | 15=>44 | 14=>43 | 28=>73 | 29=>74 | 20=>65 | 21=>66 | 22=>67 | 23=>68 | 24=>69 | 25=>70 | 26=>71 | 27=>72 | 46=>93 | 47=>94 | 48=>95 | 49=>96 | 50=>97 | 57=>108 | n=>n,fun | 22=>56 | 24=>36 | 25=>59 | 3=>3 | 39=>85 | 0=>0 | 53=>116 | 55=>103 | 4=>4 | 46=>110 | 45=>109 | 50=>78 | 5=>5 | 9=>9 | 66=>141 | 70=>145 | 76=>157 | 77=>158 | n=>n,fun | n=>n⟩
theorem Try.laysSortR:Go.Proofs.SlLaysF0.n6 Try.prog Try.laysSortR_ren:={
  mixed:=by kernel_rfl
  f6:=⟨Try.f23.name,by decide,Try.func23.trans (congrArg some (by kernel_rfl))⟩
  f14:=⟨Try.f43.name,by decide,Try.func43.trans (congrArg some (by kernel_rfl))⟩
  f15:=Try.func44.trans (congrArg some (by kernel_rfl))
  f20:=⟨Try.f65.name,by decide,Try.func65.trans (congrArg some (by kernel_rfl))⟩
  f21:=⟨Try.f66.name,by decide,Try.func66.trans (congrArg some (by kernel_rfl))⟩
  f22:=⟨Try.f67.name,by decide,Try.func67.trans (congrArg some (by kernel_rfl))⟩
  f23:=⟨Try.f68.name,by decide,Try.func68.trans (congrArg some (by kernel_rfl))⟩
  f24:=⟨Try.f69.name,by decide,Try.func69.trans (congrArg some (by kernel_rfl))⟩
  f25:=⟨Try.f70.name,by decide,Try.func70.trans (congrArg some (by kernel_rfl))⟩
  f26:=⟨Try.f71.name,by decide,Try.func71.trans (congrArg some (by kernel_rfl))⟩
  f27:=⟨Try.f72.name,by decide,Try.func72.trans (congrArg some (by kernel_rfl))⟩
  f28:=Try.func73.trans (congrArg some (by kernel_rfl))
  f29:=Try.func74.trans (congrArg some (by kernel_rfl))
  f46:=⟨Try.f93.name,by decide,Try.func93.trans (congrArg some (by kernel_rfl))⟩
  f47:=Try.func94.trans (congrArg some (by kernel_rfl))
  f48:=Try.func95.trans (congrArg some (by kernel_rfl))
  f49:=⟨Try.f96.name,by decide,Try.func96.trans (congrArg some (by kernel_rfl))⟩
  f50:=⟨Try.f97.name,by decide,Try.func97.trans (congrArg some (by kernel_rfl))⟩
  f57:=⟨Try.f108.name,by decide,Try.func108.trans (congrArg some (by kernel_rfl))⟩
  t0:=Try.underlying0
  a0:=Try.isAgg0
  z0:=Try.sizeOf0
  v0:=Try.zeroValue0
  t3:=Try.underlying3
  a3:=Try.isAgg3
  z3:=Try.sizeOf3
  v3:=Try.zeroValue3
  t4:=Try.underlying4
  a4:=Try.isAgg4
  z4:=Try.sizeOf4
  v4:=Try.zeroValue4
  t5:=Try.underlying5
  a5:=Try.isAgg5
  z5:=Try.sizeOf5
  v5:=Try.zeroValue5
  t9:=Try.underlying9
  a9:=Try.isAgg9
  z9:=Try.sizeOf9
  v9:=Try.zeroValue9
  t22:=Try.underlying56
  a22:=Try.isAgg56
  z22:=Try.sizeOf56
  v22:=Try.zeroValue56
  t25:=Try.underlying59
  a25:=Try.isAgg59
  z25:=Try.sizeOf59
  v25:=Try.zeroValue59
  t39:=Try.underlying85
  a39:=Try.isAgg85
  z39:=Try.sizeOf85
  v39:=Try.zeroValue85
  t45:=Try.underlying109
  a45:=Try.isAgg109
  z45:=Try.sizeOf109
  v45:=Try.zeroValue109
  t46:=Try.underlying110
  a46:=Try.isAgg110
  z46:=Try.sizeOf110
  v46:=Try.zeroValue110
  t50:=Try.underlying78
  a50:=Try.isAgg78
  z50:=Try.sizeOf78
  v50:=Try.zeroValue78
  t53:=Try.underlying116
  a53:=Try.isAgg116
  z53:=Try.sizeOf116
  v53:=Try.zeroValue116
  t55:=Try.underlying103
  a55:=Try.isAgg103
  z55:=Try.sizeOf103
  v55:=Try.zeroValue103
  t66:=Try.underlying141
  a66:=Try.isAgg141
  z66:=Try.sizeOf141
  v66:=Try.zeroValue141
  t70:=Try.underlying145
  a70:=Try.isAgg145
  z70:=Try.sizeOf145
  v70:=Try.zeroValue145
  t76:=Try.underlying157
  a76:=Try.isAgg157
  z76:=Try.sizeOf157
  v76:=Try.zeroValue157
  t77:=Try.underlying158
  a77:=Try.isAgg158
  z77:=Try.sizeOf158
  v77:=Try.zeroValue158 }
end Go.Proofs

namespace Go.Proofs.Ytpgpbhjkgciggaa
open Go Go.Tx Go.Proofs.Try
theorem quk {g:FuncId} {F:den Rii×den Rii×Unit→Option Int} (hS:COK prog ⟨g,[.row Rii true,.row Rii true],Int,F,fun r=>(.int .i64 r,[])⟩) {C:Orc} (hC:OrcOK prog C):OrcOK prog (orcS 23 g Rii F C) :=
  qt9 (τ:=Rii) (ρ:=laysSortR_ren) laysSortR rfl isAgg36 sizeOf36 hS (qij (fn:=f23) (by kernel_rfl) (by kernel_rfl) (by kernel_rfl)) hC
end Go.Proofs.Ytpgpbhjkgciggaa

namespace Go.Proofs.Ytpgpbhjkgciggaa
open Go Go.Tx Go.Proofs.Try
set_option maxRecDepth 100000
set_option maxHeartbeats 0
abbrev qul:List Pk:=[.row Riii true,.row Riii true]
abbrev qum:Type:=Diii×Diii×Unit
abbrev qun:Type:=Int×Int×Int
def qup (r:qun):LV×List Ob:=(.tup [.agg [.int .i64 r.1,.int .i64 r.2.1],.int .i64 r.2.2],[])
def quq (F:qum→Option qun):Go.Tx.Spec:=⟨50,qul,qun,F,qup⟩
abbrev qur:Type:=(qpg→Option qph)×(qo7→Option qo8)×Unit
def qus (d:Nat):qur:=(qpl d,qoc d,())
def qut (C:qur):List Go.Tx.Spec:=[qpj C.1,qoa C.2.1]
abbrev quu:Type:=Int×Int×Int×Int×Int×Int
def quv (v:quu):St:=⟨[(0,.agg [i6 v.1,i6 v.2.1,i6 v.2.2.1]),(1,.agg [i6 v.2.2.2.1,i6 v.2.2.2.2.1,i6 v.2.2.2.2.2])],[]⟩
abbrev quw:Type:=Int×Int×Int×Int×Int×Int×Int×Int
def qux (v:quw):St:=⟨[(2,.ptr 0 0),(3,.ptr 1 0),(4,.ptr 2 0)],[.cells [i6 v.1,i6 v.2.1,i6 v.2.2.1],.cells [i6 v.2.2.2.1,i6 v.2.2.2.2.1,i6 v.2.2.2.2.2.1],.cells [i6 v.2.2.2.2.2.2.1,i6 v.2.2.2.2.2.2.2]]⟩
def quy (C:qur) (v:quu):Dt quw:=(Dt.ret (v.1,v.2.1,v.2.2.1,v.2.2.2.1,v.2.2.2.2.1,v.2.2.2.2.2,(0:Int),(0:Int)))
abbrev q2js {V Y:Type}:=@rg qur V Y tysT (fun C=>(orc (qut C))) 34
theorem quz C v:q2js (regO (qdv f50) 0) false (an [2,3,4]) quv quy qux C v:=rgI (by kernel_rfl)
abbrev qv0:Type:=Int×Int×Int×Int×Int×Int×Int×Int×Int
def qv1 (v:qv0):St:=⟨[(2,.ptr 0 0),(3,.ptr 1 0),(4,.ptr 2 0),(6,i6 v.1)],[.cells [i6 v.2.1,i6 v.2.2.1,i6 v.2.2.2.1],.cells [i6 v.2.2.2.2.1,i6 v.2.2.2.2.2.1,i6 v.2.2.2.2.2.2.1],.cells [i6 v.2.2.2.2.2.2.2.1,i6 v.2.2.2.2.2.2.2.2]]⟩
def qv2 (C:qur) (v:quw):Dt qv0:=(Dt.bnd (C.1 ((v.1,v.2.1,v.2.2.1,()),(v.2.2.2.1,v.2.2.2.2.1,v.2.2.2.2.2.1,()),((0:Int),(1:Int),()),())) fun r1=>(Dt.ret (r1,v.1,v.2.1,v.2.2.1,v.2.2.2.1,v.2.2.2.2.1,v.2.2.2.2.2.1,v.2.2.2.2.2.2.1,v.2.2.2.2.2.2.2)))
theorem qv3 C v:q2js (regO (qdv f50) 1) false (an [2,3,4,6]) qux qv2 qv1 C v:=rgI (by kernel_rfl)
abbrev qv4:Type:=Int×Bool×Int×Int×Int×Int×Int×Int×Int×Int
def qv5 (v:qv4):St:=⟨[(2,.ptr 0 0),(3,.ptr 1 0),(4,.ptr 2 0),(6,i6 v.1),(12,.bool v.2.1)],[.cells [i6 v.2.2.1,i6 v.2.2.2.1,i6 v.2.2.2.2.1],.cells [i6 v.2.2.2.2.2.1,i6 v.2.2.2.2.2.2.1,i6 v.2.2.2.2.2.2.2.1],.cells [i6 v.2.2.2.2.2.2.2.2.1,i6 v.2.2.2.2.2.2.2.2.2]]⟩
def qv6 (C:qur) (v:qv0):Dt qv4:=(Dt.ret (v.1,(v.1 != (0:Int)),v.2.1,v.2.2.1,v.2.2.2.1,v.2.2.2.2.1,v.2.2.2.2.2.1,v.2.2.2.2.2.2.1,v.2.2.2.2.2.2.2.1,v.2.2.2.2.2.2.2.2))
theorem qv7 C v:q2js (regO (qdv f50) 2) false (an [2,3,4,6,12]) qv1 qv6 qv5 C v:=rgI (by kernel_rfl)
abbrev qv8:Type:=Int×Int×Int
def qv9 (v:qv8):St:=⟨[(4,.ptr 0 0),(5,i6 v.1)],[.cells [i6 v.2.1,i6 v.2.2]]⟩
def qva (C:qur) (v:qv4):Dt qv8:=(Dt.ret (v.1,(0:Int),(0:Int)))
theorem qvb C v:q2js (regO (qdv f50) 3) false (an [4,5]) qv5 qva qv9 C v:=rgI (by kernel_rfl)
abbrev qvc:Type:=Bool×Int×Int×Int×Int×Int×Int×Int×Int
def qvd (v:qvc):St:=⟨[(2,.ptr 0 0),(3,.ptr 1 0),(4,.ptr 2 0),(19,.bool v.1)],[.cells [i6 v.2.1,i6 v.2.2.1,i6 v.2.2.2.1],.cells [i6 v.2.2.2.2.1,i6 v.2.2.2.2.2.1,i6 v.2.2.2.2.2.2.1],.cells [i6 v.2.2.2.2.2.2.2.1,i6 v.2.2.2.2.2.2.2.2]]⟩
def qve (C:qur) (v:qv4):Dt qvc:=(Dt.ret ((v.2.2.2.2.1 == v.2.2.2.2.2.2.2.1),v.2.2.1,v.2.2.2.1,v.2.2.2.2.1,v.2.2.2.2.2.1,v.2.2.2.2.2.2.1,v.2.2.2.2.2.2.2.1,v.2.2.2.2.2.2.2.2.1,v.2.2.2.2.2.2.2.2.2))
theorem qvf C v:q2js (regO (qdv f50) 4) false (an [2,3,4,19]) qv5 qve qvd C v:=rgI (by kernel_rfl)
def qvg (C:qur) (v:qvc):Dt qv8:=(Dt.ret ((6:Int),(0:Int),(0:Int)))
theorem qvh C v:q2js (regO (qdv f50) 5) false (an [4,5]) qvd qvg qv9 C v:=rgI (by kernel_rfl)
def qvi (C:qur) (v:qvc):Dt qv8:=(Dt.bnd (C.2.1 (((IntKind.wrap .i64 (v.2.2.1 - v.2.2.2.2.2.1)),()),((IntKind.wrap .i64 (v.2.2.2.2.2.2.1 - v.2.2.2.1)),()),())) fun r1=>(Dt.ret (r1.2.2,r1.1,r1.2.1)))
theorem qvj C v:q2js (regO (qdv f50) 6) false (an [4,5]) qvd qvi qv9 C v:=rgI (by kernel_rfl)
def qvk (d:Nat) (x:qum):Option qun :=
 (quy (qus d) (x.1.1,x.1.2.1,x.1.2.2.1,x.2.1.1,x.2.1.2.1,x.2.1.2.2.1)).eval fun y0 =>
 (qv2 (qus d) y0).eval fun y1 =>
 (qv6 (qus d) y1).eval fun y2 =>
 bif y2.2.1 then ((qva (qus d) y2).eval fun y3 =>
 some (y3.2.1,y3.2.2,y3.1)) else ((qve (qus d) y2).eval fun y4 =>
 bif y4.1 then ((qvg (qus d) y4).eval fun y5 =>
 some (y5.2.1,y5.2.2,y5.1)) else ((qvi (qus d) y4).eval fun y6 =>
 some (y6.2.1,y6.2.2,y6.1)))
theorem qvl (d:Nat):COK prog (quq (qvk d)):=by
 have hm:prog.follows .mixedOrders=true:=mixed
 have hT:=tys
 have hC0:OrcOK prog (orc (qut (qus d))):=qdp (by
  intro S hS
  simp only [qut,List.mem_cons,List.not_mem_nil,or_false] at hS
  rcases hS with rfl | rfl
  · exact qpn d
  · exact qoe d)
 have hC:OrcOK prog (orc (qut (qus d))):=hC0
 refine q9e (c:=qdv f50) (fn:=f50) hT (by kernel_rfl) (by kernel_rfl) (by decide) fun x r h w0 φ0 Q hend=>?_
 replace h:qvk d x=some r:=h
 unfold qvk at h
 show Run prog w0 φ0 34 (qdv f50) ⟨[(0,.agg [.int .i64 x.1.1,.int .i64 x.1.2.1,.int .i64 x.1.2.2.1]),(1,.agg [.int .i64 x.2.1.1,.int .i64 x.2.1.2.1,.int .i64 x.2.1.2.2.1])],[]⟩ Q
 refine q2jr hm hT hC (quz (qus d) (x.1.1,x.1.2.1,x.1.2.2.1,x.2.1.1,x.2.1.2.1,x.2.1.2.2.1)) h fun y0 h=>?_
 refine q8x ?_
 refine q2jr hm hT hC (qv3 (qus d) y0) h fun y1 h=>?_
 refine q2jr hm hT hC (qv7 (qus d) y1) h fun y2 h=>?_
 refine q91 (v:=y2.2.1) (by kernel_rfl) h ?_ ?_
 ·
  intro h
  refine q2jr hm hT hC (qvb (qus d) y2) h fun y3 h=>?_
  refine q8w (q8l ?_)
  cases h
  exact (hend _ (by kernel_rfl)).2
 ·
  intro h
  refine q8t (q8j (q8x ?_))
  refine q2jr hm hT hC (qvf (qus d) y2) h fun y4 h=>?_
  refine q91 (v:=y4.1) (by kernel_rfl) h ?_ ?_
  ·
   intro h
   refine q2jr hm hT hC (qvh (qus d) y4) h fun y5 h=>?_
   refine q8w (q8l ?_)
   cases h
   exact (hend _ (by kernel_rfl)).2
  ·
   intro h
   refine q8t (q8j ?_)
   refine q2jr hm hT hC (qvj (qus d) y4) h fun y6 h=>?_
   refine q8w ?_
   cases h
   exact (hend _ (by kernel_rfl)).2
abbrev qvm:List Pk:=[.row Rii true,.row Rii true]
abbrev qvn:Type:=Dii×Dii×Unit
abbrev qvo:Type:=Int
def qvp (r:qvo):LV×List Ob:=(.int .i64 r,[])
def qvq (F:qvn→Option qvo):Go.Tx.Spec:=⟨75,qvm,qvo,F,qvp⟩
abbrev qvr:Type:=(qnp→Option qnq)×Unit
def qvs (d:Nat):qvr:=(qnu d,())
def qvt (C:qvr):List Go.Tx.Spec:=[qns C.1]
abbrev qvu:Type:=Int×Int×Int×Int
def qvv (v:qvu):St:=⟨[(0,.agg [i6 v.1,i6 v.2.1]),(1,.agg [i6 v.2.2.1,i6 v.2.2.2])],[]⟩
abbrev qvw:Type:=Int×Int×Int×Int
def qvx (v:qvw):St:=⟨[(2,.ptr 0 0),(3,.ptr 1 0)],[.cells [i6 v.1,i6 v.2.1],.cells [i6 v.2.2.1,i6 v.2.2.2]]⟩
def qvy (C:qvr) (v:qvu):Dt qvw:=(Dt.ret (v.1,v.2.1,v.2.2.1,v.2.2.2))
abbrev q2jt {V Y:Type}:=@rg qvr V Y tysT (fun C=>(orc (qvt C))) 10
theorem qvz C v:q2jt (regO (qdv f75) 0) false (an [2,3]) qvv qvy qvx C v:=rgI (by kernel_rfl)
abbrev qw0:Type:=Int
def qw1 (v:qw0):St:=⟨[(4,i6 v)],[]⟩
def qw2 (C:qvr) (v:qvw):Dt qw0:=(Dt.bnd (C.1 ((v.1,v.2.1,()),())) fun r1=>(Dt.bnd (C.1 ((v.2.2.1,v.2.2.2,()),())) fun r2=>(Dt.ret (tmax r1 r2))))
theorem qw3 C v:q2jt (regO (qdv f75) 1) true [(4,.any)] qvx qw2 qw1 C v:=rgI (by kernel_rfl)
def qw4 (d:Nat) (x:qvn):Option qvo :=
 (qvy (qvs d) (x.1.1,x.1.2.1,x.2.1.1,x.2.1.2.1)).eval fun y0 =>
 (qw2 (qvs d) y0).eval fun y1 =>
 some y1
theorem qw5 (d:Nat):COK prog (qvq (qw4 d)):=by
 have hm:prog.follows .mixedOrders=true:=mixed
 have hT:=tys
 have hC0:OrcOK prog (orc (qvt (qvs d))):=qdp (by
  intro S hS
  simp only [qvt,List.mem_cons,List.not_mem_nil,or_false] at hS
  subst hS;exact qnw d)
 have hC:OrcOK prog (orc (qvt (qvs d))):=hC0
 refine q9e (c:=qdv f75) (fn:=f75) hT (by kernel_rfl) (by kernel_rfl) (by decide) fun x r h w0 φ0 Q hend=>?_
 replace h:qw4 d x=some r:=h
 unfold qw4 at h
 show Run prog w0 φ0 10 (qdv f75) ⟨[(0,.agg [.int .i64 x.1.1,.int .i64 x.1.2.1]),(1,.agg [.int .i64 x.2.1.1,.int .i64 x.2.1.2.1])],[]⟩ Q
 refine q2jr hm hT hC (qvz (qvs d) (x.1.1,x.1.2.1,x.2.1.1,x.2.1.2.1)) h fun y0 h=>?_
 refine q2jr hm hT hC (qw3 (qvs d) y0) h fun y1 h=>?_
 refine q8w ?_
 cases h
 exact (hend _ (by kernel_rfl)).2
abbrev qw6:List Pk:=[.row Ri false]
abbrev qw7:Type:=Di×Unit
abbrev qw8:Type:=Bool
def qw9 (r:qw8):LV×List Ob:=(.bool r,[])
def qwa (F:qw7→Option qw8):Go.Tx.Spec:=⟨98,qw6,qw8,F,qw9⟩
abbrev qwb:Type:=Unit
def qwc (_d:Nat):qwb:=()
def qwd (C:qwb):List Go.Tx.Spec:=[]
abbrev qwe:Type:=Int
def qwf (v:qwe):St:=⟨[(0,i6 v)],[]⟩
def qwg (C:qwb) (v:qwe):Dt qwe:=(Dt.ret v)
abbrev q2ju {V Y:Type}:=@rg qwb V Y tysT (fun C=>(orc (qwd C))) 6
theorem qwh C v:q2ju (regO (qdv f98) 0) false [(0,.any)] qwf qwg qwf C v:=rgI (by kernel_rfl)
abbrev qwi:Type:=Bool
def qwj (v:qwi):St:=⟨[(2,.bool v)],[]⟩
def qwk (C:qwb) (v:qwe):Dt qwi:=(Dt.ret (v != v))
theorem qwl C v:q2ju (regO (qdv f98) 1) false [(2,.any)] qwf qwk qwj C v:=rgI (by kernel_rfl)
def qwm (d:Nat) (x:qw7):Option qw8 :=
 (qwg (qwc d) x.1.1).eval fun y0 =>
 (qwk (qwc d) y0).eval fun y1 =>
 some y1
theorem qwn (d:Nat):COK prog (qwa (qwm d)):=by
 have hm:prog.follows .mixedOrders=true:=mixed
 have hT:=tys
 have hC0:OrcOK prog (orc (qwd (qwc d))):=qdp (by
  intro S hS
  simp only [qwd,List.mem_cons,List.not_mem_nil,or_false] at hS
  all_goals first | cases hS | exact hS.elim)
 have hC:OrcOK prog (orc (qwd (qwc d))):=hC0
 refine q9e (c:=qdv f98) (fn:=f98) hT (by kernel_rfl) (by kernel_rfl) (by decide) fun x r h w0 φ0 Q hend=>?_
 replace h:qwm d x=some r:=h
 unfold qwm at h
 show Run prog w0 φ0 6 (qdv f98) ⟨[(0,.int .i64 x.1.1)],[]⟩ Q
 refine q2jr hm hT hC (qwh (qwc d) x.1.1) h fun y0 h=>?_
 refine q2jr hm hT hC (qwl (qwc d) y0) h fun y1 h=>?_
 refine q8w ?_
 cases h
 exact (hend _ (by kernel_rfl)).2
abbrev qwo:List Pk:=[.row Ri false,.row Ri false]
abbrev qwp:Type:=Di×Di×Unit
abbrev qwq:Type:=Int
def qwr (r:qwq):LV×List Ob:=(.int .i64 r,[])
def qws (F:qwp→Option qwq):Go.Tx.Spec:=⟨76,qwo,qwq,F,qwr⟩
abbrev qwt:Type:=(qw7→Option qw8)×Unit
def qwu (d:Nat):qwt:=(qwm d,())
def qwv (C:qwt):List Go.Tx.Spec:=[qwa C.1]
abbrev qww:Type:=Int×Int
def qwx (v:qww):St:=⟨[(0,i6 v.1),(1,i6 v.2)],[]⟩
def qwy (C:qwt) (v:qww):Dt qww:=(Dt.ret (v.1,v.2))
abbrev q2jv {V Y:Type}:=@rg qwt V Y tysT (fun C=>(orc (qwv C))) 20
theorem qwz C v:q2jv (regO (qdv f76) 0) false (an [0,1]) qwx qwy qwx C v:=rgI (by kernel_rfl)
abbrev qx0:Type:=Int×Int×Bool
def qx1 (v:qx0):St:=⟨[(0,i6 v.1),(1,i6 v.2.1),(5,.bool v.2.2)],[]⟩
def qx2 (C:qwt) (v:qww):Dt qx0:=(Dt.bnd (C.1 ((v.1,()),())) fun r1=>(Dt.ret (v.1,v.2,r1)))
theorem qx3 C v:q2jv (regO (qdv f76) 1) false (an [0,1,5]) qwx qx2 qx1 C v:=rgI (by kernel_rfl)
abbrev qx4:Type:=Int×Int×Bool×Bool
def qx5 (v:qx4):St:=⟨[(0,i6 v.1),(1,i6 v.2.1),(5,.bool v.2.2.1),(6,.bool v.2.2.2)],[]⟩
def qx6 (C:qwt) (v:qx0):Dt qx4:=(Dt.bnd (C.1 ((v.2.1,()),())) fun r1=>(Dt.ret (v.1,v.2.1,v.2.2,r1)))
theorem qx7 C v:q2jv (regO (qdv f76) 2) false (an [0,1,5,6]) qx1 qx6 qx5 C v:=rgI (by kernel_rfl)
abbrev qx8:Type:=Int×Int×Bool×Bool
def qx9 (v:qx8):St:=⟨[(0,i6 v.1),(1,i6 v.2.1),(6,.bool v.2.2.1),(11,.bool v.2.2.2)],[]⟩
def qxa (C:qwt) (v:qx4):Dt qx8:=(Dt.ret (v.1,v.2.1,v.2.2.2,v.2.2.1))
theorem qxb C v:q2jv (regO (qdv f76) 3) false (an [0,1,6,11]) qx5 qxa qx9 C v:=rgI (by kernel_rfl)
abbrev qxc:Type:=Bool
def qxd (v:qxc):St:=⟨[(12,.bool v)],[]⟩
def qxe (C:qwt) (v:qx8):Dt qxc:=(Dt.ret v.2.2.1)
theorem qxf C v:q2jv (regO (qdv f76) 4) false [(12,.any)] qx9 qxe qxd C v:=rgI (by kernel_rfl)
abbrev qxg:Type:=Int
def qxh (v:qxg):St:=⟨[(4,i6 v)],[]⟩
def qxi (C:qwt) (v:qxc):Dt qxg:=(Dt.ret (0:Int))
theorem qxj C v:q2jv (regO (qdv f76) 5) false [(4,.any)] qxd qxi qxh C v:=rgI (by kernel_rfl)
def qxk (C:qwt) (v:qxc):Dt qxg:=(Dt.ret (-1:Int))
theorem qxl C v:q2jv (regO (qdv f76) 6) false [(4,.any)] qxd qxk qxh C v:=rgI (by kernel_rfl)
abbrev qxm:Type:=Int×Int×Bool
def qxn (v:qxm):St:=⟨[(0,i6 v.1),(1,i6 v.2.1),(13,.bool v.2.2)],[]⟩
def qxo (C:qwt) (v:qx8):Dt qxm:=(Dt.ret (v.1,v.2.1,v.2.2.1))
theorem qxp C v:q2jv (regO (qdv f76) 7) false (an [0,1,13]) qx9 qxo qxn C v:=rgI (by kernel_rfl)
def qxq (C:qwt) (v:qxm):Dt qxg:=(Dt.ret (1:Int))
theorem qxr C v:q2jv (regO (qdv f76) 8) false [(4,.any)] qxn qxq qxh C v:=rgI (by kernel_rfl)
abbrev qxs:Type:=Int×Int×Bool
def qxt (v:qxs):St:=⟨[(0,i6 v.1),(1,i6 v.2.1),(16,.bool v.2.2)],[]⟩
def qxu (C:qwt) (v:qxm):Dt qxs:=(Dt.ret (v.1,v.2.1,(decide (v.1<v.2.1))))
theorem qxv C v:q2jv (regO (qdv f76) 9) false (an [0,1,16]) qxn qxu qxt C v:=rgI (by kernel_rfl)
def qxw (C:qwt) (v:qxs):Dt qxg:=(Dt.ret (-1:Int))
theorem qxx C v:q2jv (regO (qdv f76) 10) false [(4,.any)] qxt qxw qxh C v:=rgI (by kernel_rfl)
abbrev qxy:Type:=Bool
def qxz (v:qxy):St:=⟨[(19,.bool v)],[]⟩
def qy0 (C:qwt) (v:qxs):Dt qxy:=(Dt.ret (decide (v.1 > v.2.1)))
theorem qy1 C v:q2jv (regO (qdv f76) 11) false [(19,.any)] qxt qy0 qxz C v:=rgI (by kernel_rfl)
def qy2 (C:qwt) (v:qxy):Dt qxg:=(Dt.ret (1:Int))
theorem qy3 C v:q2jv (regO (qdv f76) 12) false [(4,.any)] qxz qy2 qxh C v:=rgI (by kernel_rfl)
def qy4 (C:qwt) (v:qxy):Dt qxg:=(Dt.ret (0:Int))
theorem qy5 C v:q2jv (regO (qdv f76) 13) false [(4,.any)] qxz qy4 qxh C v:=rgI (by kernel_rfl)
def qy6 (d:Nat) (x:qwp):Option qwq :=
 (qwy (qwu d) (x.1.1,x.2.1.1)).eval fun y0 =>
 (qx2 (qwu d) y0).eval fun y1 =>
 (qx6 (qwu d) y1).eval fun y2 =>
 (qxa (qwu d) y2).eval fun y3 =>
 bif y3.2.2.2 then ((qxe (qwu d) y3).eval fun y4 =>
 bif y4 then ((qxi (qwu d) y4).eval fun y5 =>
 some y5) else ((qxk (qwu d) y4).eval fun y6 =>
 some y6)) else ((qxo (qwu d) y3).eval fun y7 =>
 bif y7.2.2 then ((qxq (qwu d) y7).eval fun y8 =>
 some y8) else ((qxu (qwu d) y7).eval fun y9 =>
 bif y9.2.2 then ((qxw (qwu d) y9).eval fun y10 =>
 some y10) else ((qy0 (qwu d) y9).eval fun y11 =>
 bif y11 then ((qy2 (qwu d) y11).eval fun y12 =>
 some y12) else ((qy4 (qwu d) y11).eval fun y13 =>
 some y13))))
theorem qy7 (d:Nat):COK prog (qws (qy6 d)):=by
 have hm:prog.follows .mixedOrders=true:=mixed
 have hT:=tys
 have hC0:OrcOK prog (orc (qwv (qwu d))):=qdp (by
  intro S hS
  simp only [qwv,List.mem_cons,List.not_mem_nil,or_false] at hS
  subst hS;exact qwn d)
 have hC:OrcOK prog (orc (qwv (qwu d))):=hC0
 refine q9e (c:=qdv f76) (fn:=f76) hT (by kernel_rfl) (by kernel_rfl) (by decide) fun x r h w0 φ0 Q hend=>?_
 replace h:qy6 d x=some r:=h
 unfold qy6 at h
 show Run prog w0 φ0 20 (qdv f76) ⟨[(0,.int .i64 x.1.1),(1,.int .i64 x.2.1.1)],[]⟩ Q
 refine q2jr hm hT hC (qwz (qwu d) (x.1.1,x.2.1.1)) h fun y0 h=>?_
 refine q2jr hm hT hC (qx3 (qwu d) y0) h fun y1 h=>?_
 refine q2jr hm hT hC (qx7 (qwu d) y1) h fun y2 h=>?_
 refine q8x ?_
 refine q2jr hm hT hC (qxb (qwu d) y2) h fun y3 h=>?_
 refine q91 (v:=y3.2.2.2) (by kernel_rfl) h ?_ ?_
 ·
  intro h
  refine q8x ?_
  refine q2jr hm hT hC (qxf (qwu d) y3) h fun y4 h=>?_
  refine q91 (v:=y4) (by kernel_rfl) h ?_ ?_
  ·
   intro h
   refine q2jr hm hT hC (qxj (qwu d) y4) h fun y5 h=>?_
   refine q8w (q8l (q8l ?_))
   cases h
   exact (hend _ (by kernel_rfl)).2
  ·
   intro h
   refine q8t (q8j ?_)
   refine q2jr hm hT hC (qxl (qwu d) y4) h fun y6 h=>?_
   refine q8w (q8l ?_)
   cases h
   exact (hend _ (by kernel_rfl)).2
 ·
  intro h
  refine q8t (q8j (q8x ?_))
  refine q2jr hm hT hC (qxp (qwu d) y3) h fun y7 h=>?_
  refine q91 (v:=y7.2.2) (by kernel_rfl) h ?_ ?_
  ·
   intro h
   refine q2jr hm hT hC (qxr (qwu d) y7) h fun y8 h=>?_
   refine q8w (q8l ?_)
   cases h
   exact (hend _ (by kernel_rfl)).2
  ·
   intro h
   refine q8t (q8j (q8x ?_))
   refine q2jr hm hT hC (qxv (qwu d) y7) h fun y9 h=>?_
   refine q91 (v:=y9.2.2) (by kernel_rfl) h ?_ ?_
   ·
    intro h
    refine q2jr hm hT hC (qxx (qwu d) y9) h fun y10 h=>?_
    refine q8w (q8l ?_)
    cases h
    exact (hend _ (by kernel_rfl)).2
   ·
    intro h
    refine q8t (q8j (q8x ?_))
    refine q2jr hm hT hC (qy1 (qwu d) y9) h fun y11 h=>?_
    refine q91 (v:=y11) (by kernel_rfl) h ?_ ?_
    ·
     intro h
     refine q2jr hm hT hC (qy3 (qwu d) y11) h fun y12 h=>?_
     refine q8w (q8l ?_)
     cases h
     exact (hend _ (by kernel_rfl)).2
    ·
     intro h
     refine q8t (q8j ?_)
     refine q2jr hm hT hC (qy5 (qwu d) y11) h fun y13 h=>?_
     refine q8w ?_
     cases h
     exact (hend _ (by kernel_rfl)).2
abbrev qy8:List Pk:=[.row Ri false]
abbrev qy9:Type:=Di×Unit
abbrev qya:Type:=Int
def qyb (r:qya):LV×List Ob:=(.int .u64 r,[])
def qyc (F:qy9→Option qya):Go.Tx.Spec:=⟨62,qy8,qya,F,qyb⟩
abbrev qyd:Type:=Unit
def qye (_d:Nat):qyd:=()
def qyf (C:qyd):List Go.Tx.Spec:=[]
abbrev qyg:Type:=Int
def qyh (v:qyg):St:=⟨[(0,i6 v)],[]⟩
def qyi (C:qyd) (v:qyg):Dt qyg:=(Dt.ret v)
abbrev q2jw {V Y:Type}:=@rg qyd V Y tysT (fun C=>(orc (qyf C))) 10
theorem qyj C v:q2jw (regO (qdv f62) 0) false [(0,.any)] qyh qyi qyh C v:=rgI (by kernel_rfl)
abbrev qyk:Type:=Int×Bool
def qyl (v:qyk):St:=⟨[(0,i6 v.1),(4,.bool v.2)],[]⟩
def qym (C:qyd) (v:qyg):Dt qyk:=(Dt.ret (v,(decide (v<(0:Int)))))
theorem qyn C v:q2jw (regO (qdv f62) 1) false (an [0,4]) qyh qym qyl C v:=rgI (by kernel_rfl)
abbrev qyo:Type:=Int
def qyp (v:qyo):St:=⟨[(2,u6 v)],[]⟩
def qyq (C:qyd) (v:qyk):Dt qyo:=(Dt.ret (IntKind.wrap .u64 (0 - (IntKind.wrap .u64 v.1))))
theorem qyr C v:q2jw (regO (qdv f62) 2) false [(2,.any)] qyl qyq qyp C v:=rgI (by kernel_rfl)
def qys (C:qyd) (v:qyk):Dt qyo:=(Dt.ret (IntKind.wrap .u64 v.1))
theorem qyt C v:q2jw (regO (qdv f62) 3) false [(2,.any)] qyl qys qyp C v:=rgI (by kernel_rfl)
def qyu (d:Nat) (x:qy9):Option qya :=
 (qyi (qye d) x.1.1).eval fun y0 =>
 (qym (qye d) y0).eval fun y1 =>
 bif y1.2 then ((qyq (qye d) y1).eval fun y2 =>
 some y2) else ((qys (qye d) y1).eval fun y3 =>
 some y3)
theorem qyv (d:Nat):COK prog (qyc (qyu d)):=by
 have hm:prog.follows .mixedOrders=true:=mixed
 have hT:=tys
 have hC0:OrcOK prog (orc (qyf (qye d))):=qdp (by
  intro S hS
  simp only [qyf,List.mem_cons,List.not_mem_nil,or_false] at hS
  all_goals first | cases hS | exact hS.elim)
 have hC:OrcOK prog (orc (qyf (qye d))):=hC0
 refine q9e (c:=qdv f62) (fn:=f62) hT (by kernel_rfl) (by kernel_rfl) (by decide) fun x r h w0 φ0 Q hend=>?_
 replace h:qyu d x=some r:=h
 unfold qyu at h
 show Run prog w0 φ0 10 (qdv f62) ⟨[(0,.int .i64 x.1.1)],[]⟩ Q
 refine q2jr hm hT hC (qyj (qye d) x.1.1) h fun y0 h=>?_
 refine q8x ?_
 refine q2jr hm hT hC (qyn (qye d) y0) h fun y1 h=>?_
 refine q91 (v:=y1.2) (by kernel_rfl) h ?_ ?_
 ·
  intro h
  refine q2jr hm hT hC (qyr (qye d) y1) h fun y2 h=>?_
  refine q8w (q8l ?_)
  cases h
  exact (hend _ (by kernel_rfl)).2
 ·
  intro h
  refine q8t (q8j ?_)
  refine q2jr hm hT hC (qyt (qye d) y1) h fun y3 h=>?_
  refine q8w ?_
  cases h
  exact (hend _ (by kernel_rfl)).2
abbrev qyw:List Pk:=[.row Ri false,.row Ri false]
abbrev qyx:Type:=Di×Di×Unit
abbrev qyy:Type:=Bool×Int×Int
def qyz (r:qyy):LV×List Ob:=(.agg [.bool r.1,.int .u64 r.2.1,.int .u64 r.2.2],[])
def qz0 (F:qyx→Option qyy):Go.Tx.Spec:=⟨78,qyw,qyy,F,qyz⟩
abbrev qz1:Type:=(qy9→Option qya)×(qn7→Option qn8)×Unit
def qz2 (d:Nat):qz1:=(qyu d,qnc d,())
def qz3 (C:qz1):List Go.Tx.Spec:=[qyc C.1,qna C.2.1]
abbrev qz4:Type:=Int×Int
def qz5 (v:qz4):St:=⟨[(0,i6 v.1),(1,i6 v.2)],[]⟩
abbrev qz6:Type:=Int×Int×Bool×Int×Int
def qz7 (v:qz6):St:=⟨[(0,i6 v.1),(1,i6 v.2.1),(4,.ptr 0 0)],[.cells [.bool v.2.2.1,u6 v.2.2.2.1,u6 v.2.2.2.2]]⟩
def qz8 (C:qz1) (v:qz4):Dt qz6:=(Dt.ret (v.1,v.2,false,(0:Int),(0:Int)))
abbrev q2jx {V Y:Type}:=@rg qz1 V Y tysT (fun C=>(orc (qz3 C))) 23
theorem qz9 C v:q2jx (regO (qdv f78) 0) false (an [0,1,4]) qz5 qz8 qz7 C v:=rgI (by kernel_rfl)
abbrev qza:Type:=Int×Int×Int×Int×Bool×Int×Int
def qzb (v:qza):St:=⟨[(0,i6 v.1),(1,i6 v.2.1),(4,.ptr 0 0),(5,u6 v.2.2.1),(6,u6 v.2.2.2.1)],[.cells [.bool v.2.2.2.2.1,u6 v.2.2.2.2.2.1,u6 v.2.2.2.2.2.2]]⟩
def qzc (C:qz1) (v:qz6):Dt qza:=(Dt.bnd (C.1 ((v.1,()),())) fun r1=>(Dt.bnd (C.1 ((v.2.1,()),())) fun r2=>(Dt.bnd (C.2.1 ((r1,()),(r2,()),())) fun r3=>(Dt.ret (v.1,v.2.1,r3.1,r3.2,v.2.2.1,v.2.2.2.1,v.2.2.2.2)))))
theorem qzd C v:q2jx (regO (qdv f78) 1) false (an [0,1,4,5,6]) qz7 qzc qzb C v:=rgI (by kernel_rfl)
abbrev qze:Type:=Bool×Int×Int
def qzf (v:qze):St:=⟨[(4,.ptr 0 0)],[.cells [.bool v.1,u6 v.2.1,u6 v.2.2]]⟩
def qzg (C:qz1) (v:qza):Dt qze:=(Dt.ret ((!((decide (v.1<(0:Int))) == (decide (v.2.1<(0:Int))))),v.2.2.1,v.2.2.2.1))
theorem qzh C v:q2jx (regO (qdv f78) 2) false [(4,.any)] qzb qzg qzf C v:=rgI (by kernel_rfl)
def qzi (d:Nat) (x:qyx):Option qyy :=
 (qz8 (qz2 d) (x.1.1,x.2.1.1)).eval fun y0 =>
 (qzc (qz2 d) y0).eval fun y1 =>
 (qzg (qz2 d) y1).eval fun y2 =>
 some y2
theorem qzj (d:Nat):COK prog (qz0 (qzi d)):=by
 have hm:prog.follows .mixedOrders=true:=mixed
 have hT:=tys
 have hC0:OrcOK prog (orc (qz3 (qz2 d))):=qdp (by
  intro S hS
  simp only [qz3,List.mem_cons,List.not_mem_nil,or_false] at hS
  rcases hS with rfl | rfl
  · exact qyv d
  · exact qne d)
 have hC:OrcOK prog (orc (qz3 (qz2 d))):=hC0
 refine q9e (c:=qdv f78) (fn:=f78) hT (by kernel_rfl) (by kernel_rfl) (by decide) fun x r h w0 φ0 Q hend=>?_
 replace h:qzi d x=some r:=h
 unfold qzi at h
 show Run prog w0 φ0 23 (qdv f78) ⟨[(0,.int .i64 x.1.1),(1,.int .i64 x.2.1.1)],[]⟩ Q
 refine q2jr hm hT hC (qz9 (qz2 d) (x.1.1,x.2.1.1)) h fun y0 h=>?_
 refine q2jr hm hT hC (qzd (qz2 d) y0) h fun y1 h=>?_
 refine q2jr hm hT hC (qzh (qz2 d) y1) h fun y2 h=>?_
 refine q8w ?_
 cases h
 exact (hend _ (by kernel_rfl)).2
abbrev qzk:List Pk:=[.row Ru false]
abbrev qzl:Type:=Du×Unit
abbrev qzm:Type:=Bool
def qzn (r:qzm):LV×List Ob:=(.bool r,[])
def qzo (F:qzl→Option qzm):Go.Tx.Spec:=⟨109,qzk,qzm,F,qzn⟩
abbrev qzp:Type:=Unit
def qzq (_d:Nat):qzp:=()
def qzr (C:qzp):List Go.Tx.Spec:=[]
abbrev qzs:Type:=Int
def qzt (v:qzs):St:=⟨[(0,u6 v)],[]⟩
def qzu (C:qzp) (v:qzs):Dt qzs:=(Dt.ret v)
abbrev q2jy {V Y:Type}:=@rg qzp V Y tysT (fun C=>(orc (qzr C))) 6
theorem qzv C v:q2jy (regO (qdv f109) 0) false [(0,.any)] qzt qzu qzt C v:=rgI (by kernel_rfl)
abbrev qzw:Type:=Bool
def qzx (v:qzw):St:=⟨[(2,.bool v)],[]⟩
def qzy (C:qzp) (v:qzs):Dt qzw:=(Dt.ret (v != v))
theorem qzz C v:q2jy (regO (qdv f109) 1) false [(2,.any)] qzt qzy qzx C v:=rgI (by kernel_rfl)
def q100 (d:Nat) (x:qzl):Option qzm :=
 (qzu (qzq d) x.1.1).eval fun y0 =>
 (qzy (qzq d) y0).eval fun y1 =>
 some y1
theorem q101 (d:Nat):COK prog (qzo (q100 d)):=by
 have hm:prog.follows .mixedOrders=true:=mixed
 have hT:=tys
 have hC0:OrcOK prog (orc (qzr (qzq d))):=qdp (by
  intro S hS
  simp only [qzr,List.mem_cons,List.not_mem_nil,or_false] at hS
  all_goals first | cases hS | exact hS.elim)
 have hC:OrcOK prog (orc (qzr (qzq d))):=hC0
 refine q9e (c:=qdv f109) (fn:=f109) hT (by kernel_rfl) (by kernel_rfl) (by decide) fun x r h w0 φ0 Q hend=>?_
 replace h:q100 d x=some r:=h
 unfold q100 at h
 show Run prog w0 φ0 6 (qdv f109) ⟨[(0,.int .u64 x.1.1)],[]⟩ Q
 refine q2jr hm hT hC (qzv (qzq d) x.1.1) h fun y0 h=>?_
 refine q2jr hm hT hC (qzz (qzq d) y0) h fun y1 h=>?_
 refine q8w ?_
 cases h
 exact (hend _ (by kernel_rfl)).2
abbrev q102:List Pk:=[.row Ru false,.row Ru false]
abbrev q103:Type:=Du×Du×Unit
abbrev q104:Type:=Int
def q105 (r:q104):LV×List Ob:=(.int .i64 r,[])
def q106 (F:q103→Option q104):Go.Tx.Spec:=⟨99,q102,q104,F,q105⟩
abbrev q107:Type:=(qzl→Option qzm)×Unit
def q108 (d:Nat):q107:=(q100 d,())
def q109 (C:q107):List Go.Tx.Spec:=[qzo C.1]
abbrev q10a:Type:=Int×Int
def q10b (v:q10a):St:=⟨[(0,u6 v.1),(1,u6 v.2)],[]⟩
def q10c (C:q107) (v:q10a):Dt q10a:=(Dt.ret (v.1,v.2))
abbrev q2jz {V Y:Type}:=@rg q107 V Y tysT (fun C=>(orc (q109 C))) 20
theorem q10d C v:q2jz (regO (qdv f99) 0) false (an [0,1]) q10b q10c q10b C v:=rgI (by kernel_rfl)
abbrev q10e:Type:=Int×Int×Bool
def q10f (v:q10e):St:=⟨[(0,u6 v.1),(1,u6 v.2.1),(5,.bool v.2.2)],[]⟩
def q10g (C:q107) (v:q10a):Dt q10e:=(Dt.bnd (C.1 ((v.1,()),())) fun r1=>(Dt.ret (v.1,v.2,r1)))
theorem q10h C v:q2jz (regO (qdv f99) 1) false (an [0,1,5]) q10b q10g q10f C v:=rgI (by kernel_rfl)
abbrev q10i:Type:=Int×Int×Bool×Bool
def q10j (v:q10i):St:=⟨[(0,u6 v.1),(1,u6 v.2.1),(5,.bool v.2.2.1),(6,.bool v.2.2.2)],[]⟩
def q10k (C:q107) (v:q10e):Dt q10i:=(Dt.bnd (C.1 ((v.2.1,()),())) fun r1=>(Dt.ret (v.1,v.2.1,v.2.2,r1)))
theorem q10l C v:q2jz (regO (qdv f99) 2) false (an [0,1,5,6]) q10f q10k q10j C v:=rgI (by kernel_rfl)
abbrev q10m:Type:=Int×Int×Bool×Bool
def q10n (v:q10m):St:=⟨[(0,u6 v.1),(1,u6 v.2.1),(6,.bool v.2.2.1),(11,.bool v.2.2.2)],[]⟩
def q10o (C:q107) (v:q10i):Dt q10m:=(Dt.ret (v.1,v.2.1,v.2.2.2,v.2.2.1))
theorem q10p C v:q2jz (regO (qdv f99) 3) false (an [0,1,6,11]) q10j q10o q10n C v:=rgI (by kernel_rfl)
abbrev q10q:Type:=Bool
def q10r (v:q10q):St:=⟨[(12,.bool v)],[]⟩
def q10s (C:q107) (v:q10m):Dt q10q:=(Dt.ret v.2.2.1)
theorem q10t C v:q2jz (regO (qdv f99) 4) false [(12,.any)] q10n q10s q10r C v:=rgI (by kernel_rfl)
abbrev q10u:Type:=Int
def q10v (v:q10u):St:=⟨[(4,i6 v)],[]⟩
def q10w (C:q107) (v:q10q):Dt q10u:=(Dt.ret (0:Int))
theorem q10x C v:q2jz (regO (qdv f99) 5) false [(4,.any)] q10r q10w q10v C v:=rgI (by kernel_rfl)
def q10y (C:q107) (v:q10q):Dt q10u:=(Dt.ret (-1:Int))
theorem q10z C v:q2jz (regO (qdv f99) 6) false [(4,.any)] q10r q10y q10v C v:=rgI (by kernel_rfl)
abbrev q110:Type:=Int×Int×Bool
def q111 (v:q110):St:=⟨[(0,u6 v.1),(1,u6 v.2.1),(13,.bool v.2.2)],[]⟩
def q112 (C:q107) (v:q10m):Dt q110:=(Dt.ret (v.1,v.2.1,v.2.2.1))
theorem q113 C v:q2jz (regO (qdv f99) 7) false (an [0,1,13]) q10n q112 q111 C v:=rgI (by kernel_rfl)
def q114 (C:q107) (v:q110):Dt q10u:=(Dt.ret (1:Int))
theorem q115 C v:q2jz (regO (qdv f99) 8) false [(4,.any)] q111 q114 q10v C v:=rgI (by kernel_rfl)
abbrev q116:Type:=Int×Int×Bool
def q117 (v:q116):St:=⟨[(0,u6 v.1),(1,u6 v.2.1),(16,.bool v.2.2)],[]⟩
def q118 (C:q107) (v:q110):Dt q116:=(Dt.ret (v.1,v.2.1,(decide (v.1<v.2.1))))
theorem q119 C v:q2jz (regO (qdv f99) 9) false (an [0,1,16]) q111 q118 q117 C v:=rgI (by kernel_rfl)
def q11a (C:q107) (v:q116):Dt q10u:=(Dt.ret (-1:Int))
theorem q11b C v:q2jz (regO (qdv f99) 10) false [(4,.any)] q117 q11a q10v C v:=rgI (by kernel_rfl)
abbrev q11c:Type:=Bool
def q11d (v:q11c):St:=⟨[(19,.bool v)],[]⟩
def q11e (C:q107) (v:q116):Dt q11c:=(Dt.ret (decide (v.1 > v.2.1)))
theorem q11f C v:q2jz (regO (qdv f99) 11) false [(19,.any)] q117 q11e q11d C v:=rgI (by kernel_rfl)
def q11g (C:q107) (v:q11c):Dt q10u:=(Dt.ret (1:Int))
theorem q11h C v:q2jz (regO (qdv f99) 12) false [(4,.any)] q11d q11g q10v C v:=rgI (by kernel_rfl)
def q11i (C:q107) (v:q11c):Dt q10u:=(Dt.ret (0:Int))
theorem q11j C v:q2jz (regO (qdv f99) 13) false [(4,.any)] q11d q11i q10v C v:=rgI (by kernel_rfl)
def q11k (d:Nat) (x:q103):Option q104 :=
 (q10c (q108 d) (x.1.1,x.2.1.1)).eval fun y0 =>
 (q10g (q108 d) y0).eval fun y1 =>
 (q10k (q108 d) y1).eval fun y2 =>
 (q10o (q108 d) y2).eval fun y3 =>
 bif y3.2.2.2 then ((q10s (q108 d) y3).eval fun y4 =>
 bif y4 then ((q10w (q108 d) y4).eval fun y5 =>
 some y5) else ((q10y (q108 d) y4).eval fun y6 =>
 some y6)) else ((q112 (q108 d) y3).eval fun y7 =>
 bif y7.2.2 then ((q114 (q108 d) y7).eval fun y8 =>
 some y8) else ((q118 (q108 d) y7).eval fun y9 =>
 bif y9.2.2 then ((q11a (q108 d) y9).eval fun y10 =>
 some y10) else ((q11e (q108 d) y9).eval fun y11 =>
 bif y11 then ((q11g (q108 d) y11).eval fun y12 =>
 some y12) else ((q11i (q108 d) y11).eval fun y13 =>
 some y13))))
theorem q11l (d:Nat):COK prog (q106 (q11k d)):=by
 have hm:prog.follows .mixedOrders=true:=mixed
 have hT:=tys
 have hC0:OrcOK prog (orc (q109 (q108 d))):=qdp (by
  intro S hS
  simp only [q109,List.mem_cons,List.not_mem_nil,or_false] at hS
  subst hS;exact q101 d)
 have hC:OrcOK prog (orc (q109 (q108 d))):=hC0
 refine q9e (c:=qdv f99) (fn:=f99) hT (by kernel_rfl) (by kernel_rfl) (by decide) fun x r h w0 φ0 Q hend=>?_
 replace h:q11k d x=some r:=h
 unfold q11k at h
 show Run prog w0 φ0 20 (qdv f99) ⟨[(0,.int .u64 x.1.1),(1,.int .u64 x.2.1.1)],[]⟩ Q
 refine q2jr hm hT hC (q10d (q108 d) (x.1.1,x.2.1.1)) h fun y0 h=>?_
 refine q2jr hm hT hC (q10h (q108 d) y0) h fun y1 h=>?_
 refine q2jr hm hT hC (q10l (q108 d) y1) h fun y2 h=>?_
 refine q8x ?_
 refine q2jr hm hT hC (q10p (q108 d) y2) h fun y3 h=>?_
 refine q91 (v:=y3.2.2.2) (by kernel_rfl) h ?_ ?_
 ·
  intro h
  refine q8x ?_
  refine q2jr hm hT hC (q10t (q108 d) y3) h fun y4 h=>?_
  refine q91 (v:=y4) (by kernel_rfl) h ?_ ?_
  ·
   intro h
   refine q2jr hm hT hC (q10x (q108 d) y4) h fun y5 h=>?_
   refine q8w (q8l (q8l ?_))
   cases h
   exact (hend _ (by kernel_rfl)).2
  ·
   intro h
   refine q8t (q8j ?_)
   refine q2jr hm hT hC (q10z (q108 d) y4) h fun y6 h=>?_
   refine q8w (q8l ?_)
   cases h
   exact (hend _ (by kernel_rfl)).2
 ·
  intro h
  refine q8t (q8j (q8x ?_))
  refine q2jr hm hT hC (q113 (q108 d) y3) h fun y7 h=>?_
  refine q91 (v:=y7.2.2) (by kernel_rfl) h ?_ ?_
  ·
   intro h
   refine q2jr hm hT hC (q115 (q108 d) y7) h fun y8 h=>?_
   refine q8w (q8l ?_)
   cases h
   exact (hend _ (by kernel_rfl)).2
  ·
   intro h
   refine q8t (q8j (q8x ?_))
   refine q2jr hm hT hC (q119 (q108 d) y7) h fun y9 h=>?_
   refine q91 (v:=y9.2.2) (by kernel_rfl) h ?_ ?_
   ·
    intro h
    refine q2jr hm hT hC (q11b (q108 d) y9) h fun y10 h=>?_
    refine q8w (q8l ?_)
    cases h
    exact (hend _ (by kernel_rfl)).2
   ·
    intro h
    refine q8t (q8j (q8x ?_))
    refine q2jr hm hT hC (q11f (q108 d) y9) h fun y11 h=>?_
    refine q91 (v:=y11) (by kernel_rfl) h ?_ ?_
    ·
     intro h
     refine q2jr hm hT hC (q11h (q108 d) y11) h fun y12 h=>?_
     refine q8w (q8l ?_)
     cases h
     exact (hend _ (by kernel_rfl)).2
    ·
     intro h
     refine q8t (q8j ?_)
     refine q2jr hm hT hC (q11j (q108 d) y11) h fun y13 h=>?_
     refine q8w ?_
     cases h
     exact (hend _ (by kernel_rfl)).2
abbrev q11m:List Pk:=[.row Rbuu true,.row Rbuu true]
abbrev q11n:Type:=Dbuu×Dbuu×Unit
abbrev q11o:Type:=Int
def q11p (r:q11o):LV×List Ob:=(.int .i64 r,[])
def q11q (F:q11n→Option q11o):Go.Tx.Spec:=⟨77,q11m,q11o,F,q11p⟩
abbrev q11r:Type:=(q103→Option q104)×Unit
def q11s (d:Nat):q11r:=(q11k d,())
def q11t (C:q11r):List Go.Tx.Spec:=[q106 C.1]
abbrev q11u:Type:=Bool×Int×Int×Bool×Int×Int
def q11v (v:q11u):St:=⟨[(0,.agg [.bool v.1,u6 v.2.1,u6 v.2.2.1]),(1,.agg [.bool v.2.2.2.1,u6 v.2.2.2.2.1,u6 v.2.2.2.2.2])],[]⟩
abbrev q11w:Type:=Bool×Int×Int×Bool×Int×Int
def q11x (v:q11w):St:=⟨[(2,.ptr 0 0),(3,.ptr 1 0)],[.cells [.bool v.1,u6 v.2.1,u6 v.2.2.1],.cells [.bool v.2.2.2.1,u6 v.2.2.2.2.1,u6 v.2.2.2.2.2]]⟩
def q11y (C:q11r) (v:q11u):Dt q11w:=(Dt.ret (v.1,v.2.1,v.2.2.1,v.2.2.2.1,v.2.2.2.2.1,v.2.2.2.2.2))
abbrev q2k0 {V Y:Type}:=@rg q11r V Y tysT (fun C=>(orc (q11t C))) 19
theorem q11z C v:q2k0 (regO (qdv f77) 0) false (an [2,3]) q11v q11y q11x C v:=rgI (by kernel_rfl)
abbrev q120:Type:=Int×Bool×Int×Int×Bool×Int×Int
def q121 (v:q120):St:=⟨[(2,.ptr 0 0),(3,.ptr 1 0),(5,i6 v.1)],[.cells [.bool v.2.1,u6 v.2.2.1,u6 v.2.2.2.1],.cells [.bool v.2.2.2.2.1,u6 v.2.2.2.2.2.1,u6 v.2.2.2.2.2.2]]⟩
def q122 (C:q11r) (v:q11w):Dt q120:=(Dt.bnd (C.1 ((v.2.1,()),(v.2.2.2.2.1,()),())) fun r1=>(Dt.ret (r1,v.1,v.2.1,v.2.2.1,v.2.2.2.1,v.2.2.2.2.1,v.2.2.2.2.2)))
theorem q123 C v:q2k0 (regO (qdv f77) 1) false (an [2,3,5]) q11x q122 q121 C v:=rgI (by kernel_rfl)
abbrev q124:Type:=Int×Bool×Bool×Int×Int×Bool×Int×Int
def q125 (v:q124):St:=⟨[(2,.ptr 0 0),(3,.ptr 1 0),(5,i6 v.1),(12,.bool v.2.1)],[.cells [.bool v.2.2.1,u6 v.2.2.2.1,u6 v.2.2.2.2.1],.cells [.bool v.2.2.2.2.2.1,u6 v.2.2.2.2.2.2.1,u6 v.2.2.2.2.2.2.2]]⟩
def q126 (C:q11r) (v:q120):Dt q124:=(Dt.ret (v.1,(v.1 != (0:Int)),v.2.1,v.2.2.1,v.2.2.2.1,v.2.2.2.2.1,v.2.2.2.2.2.1,v.2.2.2.2.2.2))
theorem q127 C v:q2k0 (regO (qdv f77) 2) false (an [2,3,5,12]) q121 q126 q125 C v:=rgI (by kernel_rfl)
abbrev q128:Type:=Int
def q129 (v:q128):St:=⟨[(4,i6 v)],[]⟩
def q12a (C:q11r) (v:q124):Dt q128:=(Dt.ret v.1)
theorem q12b C v:q2k0 (regO (qdv f77) 3) false [(4,.any)] q125 q12a q129 C v:=rgI (by kernel_rfl)
def q12c (C:q11r) (v:q124):Dt q128:=(Dt.bnd (C.1 ((v.2.2.2.2.1,()),(v.2.2.2.2.2.2.2,()),())) fun r1=>(Dt.ret r1))
theorem q12d C v:q2k0 (regO (qdv f77) 4) false [(4,.any)] q125 q12c q129 C v:=rgI (by kernel_rfl)
def q12e (d:Nat) (x:q11n):Option q11o :=
 (q11y (q11s d) (x.1.1,x.1.2.1,x.1.2.2.1,x.2.1.1,x.2.1.2.1,x.2.1.2.2.1)).eval fun y0 =>
 (q122 (q11s d) y0).eval fun y1 =>
 (q126 (q11s d) y1).eval fun y2 =>
 bif y2.2.1 then ((q12a (q11s d) y2).eval fun y3 =>
 some y3) else ((q12c (q11s d) y2).eval fun y4 =>
 some y4)
theorem q12f (d:Nat):COK prog (q11q (q12e d)):=by
 have hm:prog.follows .mixedOrders=true:=mixed
 have hT:=tys
 have hC0:OrcOK prog (orc (q11t (q11s d))):=qdp (by
  intro S hS
  simp only [q11t,List.mem_cons,List.not_mem_nil,or_false] at hS
  subst hS;exact q11l d)
 have hC:OrcOK prog (orc (q11t (q11s d))):=hC0
 refine q9e (c:=qdv f77) (fn:=f77) hT (by kernel_rfl) (by kernel_rfl) (by decide) fun x r h w0 φ0 Q hend=>?_
 replace h:q12e d x=some r:=h
 unfold q12e at h
 show Run prog w0 φ0 19 (qdv f77) ⟨[(0,.agg [.bool x.1.1,.int .u64 x.1.2.1,.int .u64 x.1.2.2.1]),(1,.agg [.bool x.2.1.1,.int .u64 x.2.1.2.1,.int .u64 x.2.1.2.2.1])],[]⟩ Q
 refine q2jr hm hT hC (q11z (q11s d) (x.1.1,x.1.2.1,x.1.2.2.1,x.2.1.1,x.2.1.2.1,x.2.1.2.2.1)) h fun y0 h=>?_
 refine q8x ?_
 refine q2jr hm hT hC (q123 (q11s d) y0) h fun y1 h=>?_
 refine q2jr hm hT hC (q127 (q11s d) y1) h fun y2 h=>?_
 refine q91 (v:=y2.2.1) (by kernel_rfl) h ?_ ?_
 ·
  intro h
  refine q2jr hm hT hC (q12b (q11s d) y2) h fun y3 h=>?_
  refine q8w (q8l ?_)
  cases h
  exact (hend _ (by kernel_rfl)).2
 ·
  intro h
  refine q8t (q8j ?_)
  refine q2jr hm hT hC (q12d (q11s d) y2) h fun y4 h=>?_
  refine q8w ?_
  cases h
  exact (hend _ (by kernel_rfl)).2
abbrev q12g:List Pk:=[.row Rii true,.row Rii true]
abbrev q12h:Type:=Dii×Dii×Unit
abbrev q12i:Type:=Int×Int
def q12j (r:q12i):LV×List Ob:=(.tup [.int .i64 r.1,.int .i64 r.2],[])
def q12k (F:q12h→Option q12i):Go.Tx.Spec:=⟨45,q12g,q12i,F,q12j⟩
abbrev q12l:Type:=(qvn→Option qvo)×(qwp→Option qwq)×(q11n→Option q11o)×(qyx→Option qyy)×Unit
def q12m (d:Nat):q12l:=(qw4 d,qy6 d,q12e d,qzi d,())
def q12n (C:q12l):List Go.Tx.Spec:=[qvq C.1,qws C.2.1,q11q C.2.2.1,qz0 C.2.2.2.1]
abbrev q12o:Type:=Int×Int×Int×Int
def q12p (v:q12o):St:=⟨[(0,.agg [i6 v.1,i6 v.2.1]),(1,.agg [i6 v.2.2.1,i6 v.2.2.2])],[]⟩
abbrev q12q:Type:=Int×Int×Int×Int
def q12r (v:q12q):St:=⟨[(2,.ptr 0 0),(3,.ptr 1 0)],[.cells [i6 v.1,i6 v.2.1],.cells [i6 v.2.2.1,i6 v.2.2.2]]⟩
def q12s (C:q12l) (v:q12o):Dt q12q:=(Dt.ret (v.1,v.2.1,v.2.2.1,v.2.2.2))
abbrev q2k1 {V Y:Type}:=@rg q12l V Y tysT (fun C=>(orc (q12n C))) 43
theorem q12t C v:q2k1 (regO (qdv f45) 0) false (an [2,3]) q12p q12s q12r C v:=rgI (by kernel_rfl)
abbrev q12u:Type:=Int×Int×Int×Int×Int
def q12v (v:q12u):St:=⟨[(2,.ptr 0 0),(3,.ptr 1 0),(6,i6 v.1)],[.cells [i6 v.2.1,i6 v.2.2.1],.cells [i6 v.2.2.2.1,i6 v.2.2.2.2]]⟩
def q12w (C:q12l) (v:q12q):Dt q12u:=(Dt.bnd (C.1 ((v.1,v.2.1,()),(v.2.2.1,v.2.2.2,()),())) fun r1=>(Dt.ret (r1,v.1,v.2.1,v.2.2.1,v.2.2.2)))
theorem q12x C v:q2k1 (regO (qdv f45) 1) false (an [2,3,6]) q12r q12w q12v C v:=rgI (by kernel_rfl)
abbrev q12y:Type:=Int×Bool×Int×Int×Int×Int
def q12z (v:q12y):St:=⟨[(2,.ptr 0 0),(3,.ptr 1 0),(6,i6 v.1),(12,.bool v.2.1)],[.cells [i6 v.2.2.1,i6 v.2.2.2.1],.cells [i6 v.2.2.2.2.1,i6 v.2.2.2.2.2]]⟩
def q130 (C:q12l) (v:q12u):Dt q12y:=(Dt.ret (v.1,(v.1 != (0:Int)),v.2.1,v.2.2.1,v.2.2.2.1,v.2.2.2.2))
theorem q131 C v:q2k1 (regO (qdv f45) 2) false (an [2,3,6,12]) q12v q130 q12z C v:=rgI (by kernel_rfl)
abbrev q132:Type:=Int×Int
def q133 (v:q132):St:=⟨[(4,i6 v.1),(5,i6 v.2)],[]⟩
def q134 (C:q12l) (v:q12y):Dt q132:=(Dt.ret ((0:Int),v.1))
theorem q135 C v:q2k1 (regO (qdv f45) 3) false (an [4,5]) q12z q134 q133 C v:=rgI (by kernel_rfl)
abbrev q136:Type:=Bool×Int×Int×Int×Int
def q137 (v:q136):St:=⟨[(2,.ptr 0 0),(3,.ptr 1 0),(20,.bool v.1)],[.cells [i6 v.2.1,i6 v.2.2.1],.cells [i6 v.2.2.2.1,i6 v.2.2.2.2]]⟩
def q138 (C:q12l) (v:q12y):Dt q136:=(Dt.ret ((!((decide (v.2.2.1<(0:Int))) == (decide (v.2.2.2.2.1<(0:Int))))),v.2.2.1,v.2.2.2.1,v.2.2.2.2.1,v.2.2.2.2.2))
theorem q139 C v:q2k1 (regO (qdv f45) 4) false (an [2,3,20]) q12z q138 q137 C v:=rgI (by kernel_rfl)
def q13a (C:q12l) (v:q136):Dt q132:=(Dt.bnd (C.2.1 ((v.2.1,()),(v.2.2.2.1,()),())) fun r1=>(Dt.ret (r1,(0:Int))))
theorem q13b C v:q2k1 (regO (qdv f45) 5) false (an [4,5]) q137 q13a q133 C v:=rgI (by kernel_rfl)
abbrev q13c:Type:=Int×Int×Int
def q13d (v:q13c):St:=⟨[(2,.ptr 0 0),(7,i6 v.1)],[.cells [i6 v.2.1,i6 v.2.2]]⟩
def q13e (C:q12l) (v:q136):Dt q13c:=(Dt.bnd (C.2.2.2.1 ((v.2.1,()),(v.2.2.2.2,()),())) fun r1=>(Dt.bnd (C.2.2.2.1 ((v.2.2.2.1,()),(v.2.2.1,()),())) fun r2=>(Dt.bnd (C.2.2.1 ((r1.1,r1.2.1,r1.2.2,()),(r2.1,r2.2.1,r2.2.2,()),())) fun r3=>(Dt.ret (r3,v.2.1,v.2.2.1)))))
theorem q13f C v:q2k1 (regO (qdv f45) 6) true (an [2,7]) q137 q13e q13d C v:=rgI (by kernel_rfl)
abbrev q13g:Type:=Int×Bool
def q13h (v:q13g):St:=⟨[(7,i6 v.1),(39,.bool v.2)],[]⟩
def q13i (C:q12l) (v:q13c):Dt q13g:=(Dt.ret (v.1,(decide (v.2.1<(0:Int)))))
theorem q13j C v:q2k1 (regO (qdv f45) 7) false (an [7,39]) q13d q13i q13h C v:=rgI (by kernel_rfl)
abbrev q13k:Type:=Int
def q13l (v:q13k):St:=⟨[(7,i6 v)],[]⟩
def q13m (C:q12l) (v:q13g):Dt q13k:=(Dt.ret (IntKind.wrap .i64 (0 - v.1)))
theorem q13n C v:q2k1 (regO (qdv f45) 8) false [(7,.any)] q13h q13m q13l C v:=rgI (by kernel_rfl)
def q13o (C:q12l) (v:q13k):Dt q132:=(Dt.ret (v,(0:Int)))
theorem q13p C v:q2k1 (regO (qdv f45) 9) false (an [4,5]) q13l q13o q133 C v:=rgI (by kernel_rfl)
def q13q  (d:Nat)  (z:Int):Option (q12i) :=
 (q13o (q12m d) z).eval fun y9 =>
 some y9
def q13r (d:Nat) (x:q12h):Option q12i :=
 (q12s (q12m d) (x.1.1,x.1.2.1,x.2.1.1,x.2.1.2.1)).eval fun y0 =>
 (q12w (q12m d) y0).eval fun y1 =>
 (q130 (q12m d) y1).eval fun y2 =>
 bif y2.2.1 then ((q134 (q12m d) y2).eval fun y3 =>
 some y3) else ((q138 (q12m d) y2).eval fun y4 =>
 bif y4.1 then ((q13a (q12m d) y4).eval fun y5 =>
 some y5) else ((q13e (q12m d) y4).eval fun y6 =>
 (q13i (q12m d) y6).eval fun y7 =>
 bif y7.2 then ((q13m (q12m d) y7).eval fun y8 =>
 q13q d  y8) else (q13q d  y7.1)))
theorem q13s (d:Nat):COK prog (q12k (q13r d)):=by
 have hm:prog.follows .mixedOrders=true:=mixed
 have hT:=tys
 have hC0:OrcOK prog (orc (q12n (q12m d))):=qdp (by
  intro S hS
  simp only [q12n,List.mem_cons,List.not_mem_nil,or_false] at hS
  rcases hS with rfl | rfl | rfl | rfl
  · exact qw5 d
  · exact qy7 d
  · exact q12f d
  · exact qzj d)
 have hC:OrcOK prog (orc (q12n (q12m d))):=hC0
 refine q9e (c:=qdv f45) (fn:=f45) hT (by kernel_rfl) (by kernel_rfl) (by decide) fun x r h w0 φ0 Q hend=>?_
 replace h:q13r d x=some r:=h
 unfold q13r at h
 show Run prog w0 φ0 43 (qdv f45) ⟨[(0,.agg [.int .i64 x.1.1,.int .i64 x.1.2.1]),(1,.agg [.int .i64 x.2.1.1,.int .i64 x.2.1.2.1])],[]⟩ Q
 refine q2jr hm hT hC (q12t (q12m d) (x.1.1,x.1.2.1,x.2.1.1,x.2.1.2.1)) h fun y0 h=>?_
 refine q8x ?_
 refine q2jr hm hT hC (q12x (q12m d) y0) h fun y1 h=>?_
 refine q2jr hm hT hC (q131 (q12m d) y1) h fun y2 h=>?_
 refine q91 (v:=y2.2.1) (by kernel_rfl) h ?_ ?_
 ·
  intro h
  refine q2jr hm hT hC (q135 (q12m d) y2) h fun y3 h=>?_
  refine q8w (q8l ?_)
  cases h
  exact (hend _ (by kernel_rfl)).2
 ·
  intro h
  refine q8t (q8j (q8x ?_))
  refine q2jr hm hT hC (q139 (q12m d) y2) h fun y4 h=>?_
  refine q91 (v:=y4.1) (by kernel_rfl) h ?_ ?_
  ·
   intro h
   refine q2jr hm hT hC (q13b (q12m d) y4) h fun y5 h=>?_
   refine q8w (q8l ?_)
   cases h
   exact (hend _ (by kernel_rfl)).2
  ·
   intro h
   refine q8t (q8j ?_)
   refine q2jr hm hT hC (q13f (q12m d) y4) h fun y6 h=>?_
   refine q90 (r:=r) (F:=q13q d ) (S:=(fun z=>⟨[(7,i6 z)],[]⟩:Int→St)) ?_ ?_
   ·
    intro z h
    unfold q13q at h
    refine q2jr hm hT hC (q13p (q12m d) z) h fun y9 h=>?_
    refine q8w ?_
    cases h
    exact (hend _ (by kernel_rfl)).2
   intro hj1
   refine q2jr hm hT hC (q13j (q12m d) y6) h fun y7 h=>?_
   refine q91 (v:=y7.2) (by kernel_rfl) h ?_ ?_
   ·
    intro h
    refine q92 hm hT hC (q13n (q12m d) y7) h ?_
    intro y8 h
    exact hj1 _ h
   ·
    intro h
    refine q8t ?_
    refine qdu (s:=⟨[(7,.int .i64 y7.1)],[]⟩) [39] (by kernel_rfl) ?_
    exact hj1 _ h
abbrev q13t:List Pk:=[.row Riii true,.row Riii true,.row Rii true]
abbrev q13u:Type:=Diii×Diii×Dii×Unit
abbrev q13v:Type:=Int×Int×Bool×Int
def q13w (r:q13v):LV×List Ob:=(.tup [.agg [.int .i64 r.1,.int .i64 r.2.1],.bool r.2.2.1,.int .i64 r.2.2.2],[])
def q13x (F:q13u→Option q13v):Go.Tx.Spec:=⟨29,q13t,q13v,F,q13w⟩
abbrev q13y:Type:=(qpg→Option qph)×(qtl→Option qtm)×(qum→Option qun)×Unit
def q13z (d:Nat):q13y:=(qpl d,qtq d,qvk d,())
def q140 (C:q13y):List Go.Tx.Spec:=[qpj C.1,qto C.2.1,quq C.2.2.1]
abbrev q141:Type:=Int×Int×Int×Int×Int×Int×Int×Int
def q142 (v:q141):St:=⟨[(0,.agg [i6 v.1,i6 v.2.1,i6 v.2.2.1]),(1,.agg [i6 v.2.2.2.1,i6 v.2.2.2.2.1,i6 v.2.2.2.2.2.1]),(2,.agg [i6 v.2.2.2.2.2.2.1,i6 v.2.2.2.2.2.2.2])],[]⟩
abbrev q143:Type:=Int×Int×Int×Int×Int×Int×Int×Int×Int×Int
def q144 (v:q143):St:=⟨[(3,.ptr 0 0),(4,.ptr 1 0),(5,.ptr 2 0),(6,.ptr 3 0)],[.cells [i6 v.1,i6 v.2.1,i6 v.2.2.1],.cells [i6 v.2.2.2.1,i6 v.2.2.2.2.1,i6 v.2.2.2.2.2.1],.cells [i6 v.2.2.2.2.2.2.1,i6 v.2.2.2.2.2.2.2.1],.cells [i6 v.2.2.2.2.2.2.2.2.1,i6 v.2.2.2.2.2.2.2.2.2]]⟩
def q145 (C:q13y) (v:q141):Dt q143:=(Dt.ret (v.1,v.2.1,v.2.2.1,v.2.2.2.1,v.2.2.2.2.1,v.2.2.2.2.2.1,v.2.2.2.2.2.2.1,v.2.2.2.2.2.2.2,(0:Int),(0:Int)))
abbrev q2k2 {V Y:Type}:=@rg q13y V Y tysT (fun C=>(orc (q140 C))) 42
theorem q146 C v:q2k2 (regO (qdv f29) 0) false (an [3,4,5,6]) q142 q145 q144 C v:=rgI (by kernel_rfl)
abbrev q147:Type:=Int×Int×Int×Int×Int×Int×Int×Int×Int×Int×Int
def q148 (v:q147):St:=⟨[(3,.ptr 0 0),(4,.ptr 1 0),(5,.ptr 2 0),(6,.ptr 3 0),(9,i6 v.1)],[.cells [i6 v.2.1,i6 v.2.2.1,i6 v.2.2.2.1],.cells [i6 v.2.2.2.2.1,i6 v.2.2.2.2.2.1,i6 v.2.2.2.2.2.2.1],.cells [i6 v.2.2.2.2.2.2.2.1,i6 v.2.2.2.2.2.2.2.2.1],.cells [i6 v.2.2.2.2.2.2.2.2.2.1,i6 v.2.2.2.2.2.2.2.2.2.2]]⟩
def q149 (C:q13y) (v:q143):Dt q147:=(Dt.bnd (C.1 ((v.1,v.2.1,v.2.2.1,()),(v.2.2.2.1,v.2.2.2.2.1,v.2.2.2.2.2.1,()),(v.2.2.2.2.2.2.1,v.2.2.2.2.2.2.2.1,()),())) fun r1=>(Dt.ret (r1,v.1,v.2.1,v.2.2.1,v.2.2.2.1,v.2.2.2.2.1,v.2.2.2.2.2.1,v.2.2.2.2.2.2.1,v.2.2.2.2.2.2.2.1,v.2.2.2.2.2.2.2.2.1,v.2.2.2.2.2.2.2.2.2)))
theorem q14a C v:q2k2 (regO (qdv f29) 1) false (an [3,4,5,6,9]) q144 q149 q148 C v:=rgI (by kernel_rfl)
abbrev q14b:Type:=Int×Bool×Int×Int×Int×Int×Int×Int×Int×Int×Int×Int
def q14c (v:q14b):St:=⟨[(3,.ptr 0 0),(4,.ptr 1 0),(5,.ptr 2 0),(6,.ptr 3 0),(9,i6 v.1),(17,.bool v.2.1)],[.cells [i6 v.2.2.1,i6 v.2.2.2.1,i6 v.2.2.2.2.1],.cells [i6 v.2.2.2.2.2.1,i6 v.2.2.2.2.2.2.1,i6 v.2.2.2.2.2.2.2.1],.cells [i6 v.2.2.2.2.2.2.2.2.1,i6 v.2.2.2.2.2.2.2.2.2.1],.cells [i6 v.2.2.2.2.2.2.2.2.2.2.1,i6 v.2.2.2.2.2.2.2.2.2.2.2]]⟩
def q14d (C:q13y) (v:q147):Dt q14b:=(Dt.ret (v.1,(v.1 != (0:Int)),v.2.1,v.2.2.1,v.2.2.2.1,v.2.2.2.2.1,v.2.2.2.2.2.1,v.2.2.2.2.2.2.1,v.2.2.2.2.2.2.2.1,v.2.2.2.2.2.2.2.2.1,v.2.2.2.2.2.2.2.2.2.1,v.2.2.2.2.2.2.2.2.2.2))
theorem q14e C v:q2k2 (regO (qdv f29) 2) false (an [3,4,5,6,9,17]) q148 q14d q14c C v:=rgI (by kernel_rfl)
abbrev q14f:Type:=Bool×Int×Int×Int
def q14g (v:q14f):St:=⟨[(6,.ptr 0 0),(7,.bool v.1),(8,i6 v.2.1)],[.cells [i6 v.2.2.1,i6 v.2.2.2]]⟩
def q14h (C:q13y) (v:q14b):Dt q14f:=(Dt.ret (false,v.1,(0:Int),(0:Int)))
theorem q14i C v:q2k2 (regO (qdv f29) 3) false (an [6,7,8]) q14c q14h q14g C v:=rgI (by kernel_rfl)
abbrev q14j:Type:=Bool×Int×Int×Int×Int×Int×Int×Int×Int×Int×Int
def q14k (v:q14j):St:=⟨[(3,.ptr 0 0),(4,.ptr 1 0),(5,.ptr 2 0),(6,.ptr 3 0),(24,.bool v.1)],[.cells [i6 v.2.1,i6 v.2.2.1,i6 v.2.2.2.1],.cells [i6 v.2.2.2.2.1,i6 v.2.2.2.2.2.1,i6 v.2.2.2.2.2.2.1],.cells [i6 v.2.2.2.2.2.2.2.1,i6 v.2.2.2.2.2.2.2.2.1],.cells [i6 v.2.2.2.2.2.2.2.2.2.1,i6 v.2.2.2.2.2.2.2.2.2.2]]⟩
def q14l (C:q13y) (v:q14b):Dt q14j:=(Dt.bnd (C.2.1 ((v.2.2.2.2.2.1,v.2.2.2.2.2.2.1,v.2.2.2.2.2.2.2.1,()),(v.2.2.1,v.2.2.2.1,v.2.2.2.2.1,()),(v.2.2.2.2.2.2.2.2.1,v.2.2.2.2.2.2.2.2.2.1,()),())) fun r1=>(Dt.ret ((decide (r1 > (0:Int))),v.2.2.1,v.2.2.2.1,v.2.2.2.2.1,v.2.2.2.2.2.1,v.2.2.2.2.2.2.1,v.2.2.2.2.2.2.2.1,v.2.2.2.2.2.2.2.2.1,v.2.2.2.2.2.2.2.2.2.1,v.2.2.2.2.2.2.2.2.2.2.1,v.2.2.2.2.2.2.2.2.2.2.2)))
theorem q14m C v:q2k2 (regO (qdv f29) 4) false (an [3,4,5,6,24]) q14c q14l q14k C v:=rgI (by kernel_rfl)
def q14n (C:q13y) (v:q14j):Dt q14f:=(Dt.ret (true,(0:Int),v.2.2.2.2.2.2.2.1,v.2.2.2.2.2.2.2.2.1))
theorem q14o C v:q2k2 (regO (qdv f29) 5) false (an [6,7,8]) q14k q14n q14g C v:=rgI (by kernel_rfl)
abbrev q14p:Type:=Bool×Int×Int×Int×Int×Int×Int×Int×Int
def q14q (v:q14p):St:=⟨[(3,.ptr 0 0),(4,.ptr 1 0),(6,.ptr 2 0),(30,.bool v.1)],[.cells [i6 v.2.1,i6 v.2.2.1,i6 v.2.2.2.1],.cells [i6 v.2.2.2.2.1,i6 v.2.2.2.2.2.1,i6 v.2.2.2.2.2.2.1],.cells [i6 v.2.2.2.2.2.2.2.1,i6 v.2.2.2.2.2.2.2.2]]⟩
def q14r (C:q13y) (v:q14j):Dt q14p:=(Dt.ret ((decide (v.2.2.2.2.2.2.1≤v.2.2.2.1)),v.2.1,v.2.2.1,v.2.2.2.1,v.2.2.2.2.1,v.2.2.2.2.2.1,v.2.2.2.2.2.2.1,v.2.2.2.2.2.2.2.2.2.1,v.2.2.2.2.2.2.2.2.2.2))
theorem q14s C v:q2k2 (regO (qdv f29) 6) false (an [3,4,6,30]) q14k q14r q14q C v:=rgI (by kernel_rfl)
def q14t (C:q13y) (v:q14p):Dt q14f:=(Dt.ret (false,(0:Int),(0:Int),(0:Int)))
theorem q14u C v:q2k2 (regO (qdv f29) 7) false (an [6,7,8]) q14q q14t q14g C v:=rgI (by kernel_rfl)
abbrev q14v:Type:=Int×Int×Int×Int×Int
def q14w (v:q14v):St:=⟨[(6,.ptr 0 0),(10,.ptr 1 0),(11,i6 v.1)],[.cells [i6 v.2.1,i6 v.2.2.1],.cells [i6 v.2.2.2.1,i6 v.2.2.2.2]]⟩
def q14x (C:q13y) (v:q14p):Dt q14v:=(Dt.bnd (C.2.2.1 ((v.2.1,v.2.2.1,v.2.2.2.1,()),(v.2.2.2.2.1,v.2.2.2.2.2.1,v.2.2.2.2.2.2.1,()),())) fun r1=>(Dt.ret (r1.2.2,v.2.2.2.2.2.2.2.1,v.2.2.2.2.2.2.2.2,r1.1,r1.2.1)))
theorem q14y C v:q2k2 (regO (qdv f29) 8) false (an [6,10,11]) q14q q14x q14w C v:=rgI (by kernel_rfl)
def q14z (C:q13y) (v:q14v):Dt q14f:=(Dt.ret ((v.1 == (0:Int)),v.1,v.2.2.2.1,v.2.2.2.2))
theorem q150 C v:q2k2 (regO (qdv f29) 9) false (an [6,7,8]) q14w q14z q14g C v:=rgI (by kernel_rfl)
def q151 (d:Nat) (x:q13u):Option q13v :=
 (q145 (q13z d) (x.1.1,x.1.2.1,x.1.2.2.1,x.2.1.1,x.2.1.2.1,x.2.1.2.2.1,x.2.2.1.1,x.2.2.1.2.1)).eval fun y0 =>
 (q149 (q13z d) y0).eval fun y1 =>
 (q14d (q13z d) y1).eval fun y2 =>
 bif y2.2.1 then ((q14h (q13z d) y2).eval fun y3 =>
 some (y3.2.2.1,y3.2.2.2,y3.1,y3.2.1)) else ((q14l (q13z d) y2).eval fun y4 =>
 bif y4.1 then ((q14n (q13z d) y4).eval fun y5 =>
 some (y5.2.2.1,y5.2.2.2,y5.1,y5.2.1)) else ((q14r (q13z d) y4).eval fun y6 =>
 bif y6.1 then ((q14t (q13z d) y6).eval fun y7 =>
 some (y7.2.2.1,y7.2.2.2,y7.1,y7.2.1)) else ((q14x (q13z d) y6).eval fun y8 =>
 (q14z (q13z d) y8).eval fun y9 =>
 some (y9.2.2.1,y9.2.2.2,y9.1,y9.2.1))))
theorem q152 (d:Nat):COK prog (q13x (q151 d)):=by
 have hm:prog.follows .mixedOrders=true:=mixed
 have hT:=tys
 have hC0:OrcOK prog (orc (q140 (q13z d))):=qdp (by
  intro S hS
  simp only [q140,List.mem_cons,List.not_mem_nil,or_false] at hS
  rcases hS with rfl | rfl | rfl
  · exact qpn d
  · exact qts d
  · exact qvl d)
 have hC:OrcOK prog (orc (q140 (q13z d))):=hC0
 refine q9e (c:=qdv f29) (fn:=f29) hT (by kernel_rfl) (by kernel_rfl) (by decide) fun x r h w0 φ0 Q hend=>?_
 replace h:q151 d x=some r:=h
 unfold q151 at h
 show Run prog w0 φ0 42 (qdv f29) ⟨[(0,.agg [.int .i64 x.1.1,.int .i64 x.1.2.1,.int .i64 x.1.2.2.1]),(1,.agg [.int .i64 x.2.1.1,.int .i64 x.2.1.2.1,.int .i64 x.2.1.2.2.1]),(2,.agg [.int .i64 x.2.2.1.1,.int .i64 x.2.2.1.2.1])],[]⟩ Q
 refine q2jr hm hT hC (q146 (q13z d) (x.1.1,x.1.2.1,x.1.2.2.1,x.2.1.1,x.2.1.2.1,x.2.1.2.2.1,x.2.2.1.1,x.2.2.1.2.1)) h fun y0 h=>?_
 refine q8x ?_
 refine q2jr hm hT hC (q14a (q13z d) y0) h fun y1 h=>?_
 refine q2jr hm hT hC (q14e (q13z d) y1) h fun y2 h=>?_
 refine q91 (v:=y2.2.1) (by kernel_rfl) h ?_ ?_
 ·
  intro h
  refine q2jr hm hT hC (q14i (q13z d) y2) h fun y3 h=>?_
  refine q8w (q8l ?_)
  cases h
  exact (hend _ (by kernel_rfl)).2
 ·
  intro h
  refine q8t (q8j (q8x ?_))
  refine q2jr hm hT hC (q14m (q13z d) y2) h fun y4 h=>?_
  refine q91 (v:=y4.1) (by kernel_rfl) h ?_ ?_
  ·
   intro h
   refine q2jr hm hT hC (q14o (q13z d) y4) h fun y5 h=>?_
   refine q8w (q8l ?_)
   cases h
   exact (hend _ (by kernel_rfl)).2
  ·
   intro h
   refine q8t (q8j (q8x ?_))
   refine q2jr hm hT hC (q14s (q13z d) y4) h fun y6 h=>?_
   refine q91 (v:=y6.1) (by kernel_rfl) h ?_ ?_
   ·
    intro h
    refine q2jr hm hT hC (q14u (q13z d) y6) h fun y7 h=>?_
    refine q8w (q8l ?_)
    cases h
    exact (hend _ (by kernel_rfl)).2
   ·
    intro h
    refine q8t (q8j ?_)
    refine q2jr hm hT hC (q14y (q13z d) y6) h fun y8 h=>?_
    refine q2jr hm hT hC (q150 (q13z d) y8) h fun y9 h=>?_
    refine q8w ?_
    cases h
    exact (hend _ (by kernel_rfl)).2
end Go.Proofs.Ytpgpbhjkgciggaa

namespace Go.Tx
open Go
structure WSpec where
  g:FuncId
  τ1:List Pk
  τ2:List Pk
  σ:Row
  F:dens τ1→dens τ2→List (den σ)→Option (List (den σ))
def wmem {σ:Row} (xs:List (den σ)):LH:=q7n [.cells [.rs 1],.rows σ xs]
structure COKW (P:Program) (S:WSpec):Prop where
  ok:∀ x1 x2 xs ys,S.F x1 x2 xs=some ys→∀ (w:World) (η:Emb) (vs:List Value),(∀ M,HR M η (wmem xs) w)→VRs η (q99 S.τ1 x1 ++ .ptr 0 0 :: q99 S.τ2 x2) vs →
    Calls P S.g vs.toArray w fun e w'=>∃ η' H' m,e=.returned (.tuple #[])∧Adv 1000 (wmem xs) η w H' η' w'∧H'.get 0=some (.cells [.rs m])∧H'.get m=some (.rows S.σ ys)∧m≠0
  body:q5e P S.g
section
variable {P:Program} {M:Nat} {H:LH} {η:Emb} {w:World}
theorem q153 {σ:Row} {xs:List (den σ)} {b n:Nat} (hb:H.get b=some (.cells [.rs n])) (hn:H.get n=some (.rows σ xs)) (hne:b≠n):q88 H [b,n] [b,n]=some [.cells [.rs 1],.rows σ xs]:=by
  have i0:idx [b,n] 0 n=some 1:=by
    unfold idx
    have:Nat.beq b n=false:=by cases h:Nat.beq b n with | false=>rfl | true=>exact (hne (Nat.eq_of_beq_eq_true h)).elim
    simp [idx,this]
  simp [q88,hb,hn,q85,rens,ren,i0]
theorem q154 {σ:Row} {ys:List (den σ)} {b n k:Nat} {ob:Ob} (h:(((H.put n none).put b (some (.cells [.rs H.next]))).alloc (.rows σ ys)).get k=some ob):(k=H.next∧ob=.rows σ ys)∨(k≠H.next∧k=b∧ob=.cells [.rs H.next])∨(k≠H.next∧k≠b∧k≠n∧H.get k=some ob):=by
  rw [LH.get_alloc] at h
  have e:((H.put n none).put b (some (.cells [.rs H.next]))).next=H.next:=rfl
  rw [e] at h
  split at h
  · rename_i h1;injection h with h;exact .inl ⟨h1,h.symm⟩
  · rename_i h1
    rw [LH.get_put] at h
    split at h
    · rename_i h2;injection h with h;exact .inr (.inl ⟨h1,h2,h.symm⟩)
    · rename_i h2
      rw [LH.get_put] at h
      split at h
      · cases h
      · rename_i h3;exact .inr (.inr ⟨h1,h2,h3,h⟩)
theorem q155 {S:WSpec} (hS:COKW P S) (hp:qcv S.σ=true) {a1 a2:List LV} {b n:Nat} {xs ys:List (den S.σ)} {x1:dens S.τ1} {x2:dens S.τ2} (h1:decs H S.τ1 a1=some x1) (h2:decs H S.τ2 a2=some x2)
    (hb:H.get b=some (.cells [.rs n])) (hn:H.get n=some (.rows S.σ xs)) (hne:b≠n) (hA:b ∉ deep H ((a1++a2).flatMap q69)∧n ∉ deep H ((a1++a2).flatMap q69)) (hF:S.F x1 x2 xs=some ys) :
    q5d P S.g (a1 ++ .ptr b 0 :: a2) H (.tup [],((H.put n none).put b (some (.cells [.rs H.next]))).alloc (.rows S.σ ys)):=by
  generalize hAe:deep H ((a1++a2).flatMap q69)=A at hA
  have hAm:∀ l∈a1++a2,∀ k∈deep H (q69 l),k∈A:=fun l hl k hk=>by rw [← hAe];exact qdg (fun m hm=>List.mem_flatMap.2 ⟨l,hl,hm⟩) hk
  refine ⟨((Logged.put H hn none).trans (Logged.put _ (cs0:=.cells [.rs n]) (by rw [LH.get_put,if_neg hne];exact hb) _)).trans (Logged.alloc _ _),fun M η w vs h hM hv=>?_⟩
  have hM':H.next<M:=hM
  obtain ⟨φ,hph⟩:=qda H η w A
  have hphi:∀ k ob,φ k=some ob→w.heap[k]?=some ob:=fun k ob hk=>by
    rcases hph.cases k ob hk with h1 | ⟨_,_,h1⟩
    · exact h.fz k ob h1
    · exact h1
  have hnd:q8c [b,n]=true:=by
    have:Nat.beq b n=false:=by cases h:Nat.beq b n with | false=>rfl | true=>exact (hne (Nat.eq_of_beq_eq_true h)).elim
    simp [q8c,memB,this]
  have hsub:=q8e hnd (q153 hb hn hne) h
  -- where the variable lies
  obtain ⟨L,hL,hatL⟩:∃ L,η.loc b=some L∧At η w [.rs n] L:=by
    cases h.live b _ hb with
    | cells hL ha=>exact ⟨_,hL,ha⟩
  let η0:Emb:=⟨(η.sub [b,n]).loc,(η.sub [b,n]).hdr,φ⟩
  have l0:η0.loc 0=η.loc b:=rfl
  have l1:η0.loc 1=η.loc n:=rfl
  have lx:∀ k,2≤k→η0.loc k=none:=fun k hk=>by
    show ([b,n][k]?).bind η.loc=none
    rw [List.getElem?_eq_none (by simpa using hk)];rfl
  have hle0:(η.sub [b,n]).le η0:=⟨fun _ _ h=>h,fun _ _ h=>h,fun k ob hk=>hph.fz k ob hk⟩
  have hlb0:∀ k,LB (wmem xs) η0 k→∃ j ob L',(j=b∨j=n)∧H.get j=some ob∧η.loc j=some L'∧L'.block=k:=fun k ⟨j,ob,L',hj,hL',hk⟩=>by
    match j with
    | 0=>exact ⟨b,_,L',.inl rfl,hb,hL',hk⟩
    | 1=>exact ⟨n,_,L',.inr rfl,hn,hL',hk⟩
    | j+2=>rw [lx _ (by omega)] at hL';cases hL'
  have hlbH:∀ k,LB (wmem xs) η0 k→LB H η k:=fun k hk=>let ⟨j,ob,L',_,g1,g2,g3⟩:=hlb0 k hk;⟨j,ob,L',g1,g2,g3⟩
  have hsep0:∀ k,LB (wmem xs) η0 k→φ k=none:=fun k hk=>by
    cases hf:φ k with
    | none=>rfl
    | some o =>
      exfalso
      obtain ⟨j,ob,L',hj,g1,g2,g3⟩:=hlb0 k hk
      rcases hph.cases k o hf with h3 | ⟨_,⟨m,hm,ob',L2,m1,m2,m3⟩,_⟩
      · rw [h.sep k (hlbH k hk)] at h3;cases h3
      · have := h.inj j m _ _ _ _ g1 m1 g2 m2 (by rw [g3, m3])
        subst this
        rcases hj with rfl | rfl
        · exact hA.1 hm
        · exact hA.2 hm
  have hr0:∀ M,HR M η0 (wmem xs) w:=fun M=>⟨(hsub M).dom,(hsub M).lt,fun j ob hj=>((hsub M).live j ob hj).move hle0 rfl (Nat.le_refl _) fun _ _=>rfl,(hsub M).inj,hphi,hsep0,(hsub M).ok⟩
  have hfro:(Emb.fro φ).le η0:=⟨fun _ _ h=>(by cases h),fun _ _ h=>(by cases h),fun _ _ h=>h⟩
  obtain ⟨us,v0,us2,rfl,q1,q0,q2⟩:∃ us v0 us2,vs=us++v0 :: us2∧VRs η a1 us∧VR η (.ptr b 0) v0∧VRs η a2 us2:=by
    have t1:=hv.take a1.length
    have t2:=hv.drop a1.length
    rw [List.take_left] at t1
    rw [List.drop_left] at t2
    obtain ⟨v0,us2,e,g1,g2⟩:=t2.uncons
    exact ⟨vs.take a1.length,v0,us2,by rw [← e,List.take_append_drop],t1,g1,g2⟩
  have r1:=(qdj h hph h1 (fun l hl=>hAm l (List.mem_append_left _ hl)) q1).mono hfro
  have r2:=(qdj h hph h2 (fun l hl=>hAm l (List.mem_append_right _ hl)) q2).mono hfro
  have r0:VR η0 (.ptr 0 0) v0:=by
    cases q0 with
    | ptr hq=>exact .ptr (by rw [l0];exact hq)
  refine Calls.mono (hS.ok x1 x2 xs ys hF w η0 _ hr0 (r1.append (VRs.cons r0 r2))) fun e w' ⟨η',H',m,e1,adv,g0,gm,hm0⟩=>?_
  have hld:η'.loc 0=some L:=adv.le.loc 0 L (by rw [l0];exact hL)
  have hle:=h.le_put hM' (η'.loc m) (η'.hdr m)
  have hL0:∀ j ob L',H.get j=some ob→η.loc j=some L'→L'.block<w.heap.size:=fun j ob L' g1 g2=>(h.live j ob g1).lt g2
  have hkeep:∀ j ob,H.get j=some ob→j≠b→j≠n→∀ L',η.loc j=some L'→¬ LB (wmem xs) η0 L'.block:=fun j ob g1 n1 n2 L' g2 hl=>by
    obtain ⟨i,ob2,L2,hi,k1,k2,k3⟩:=hlb0 _ hl
    have:=h.inj i j _ _ _ _ k1 g1 k2 g2 k3
    subst this
    rcases hi with hi | hi
    · exact n1 hi
    · exact n2 hi
  have hmblk:∀ L',η'.loc m=some L'→LB (wmem xs) η0 L'.block∨w.heap.size≤L'.block:=fun L' hl=>adv.lb _ ⟨m,_,L',gm,hl,rfl⟩
  have hlb2:∀ k,LB (((H.put n none).put b (some (.cells [.rs H.next]))).alloc (.rows S.σ ys)) (η.put H.next (η'.loc m) (η'.hdr m)) k→LB H η k∨w.heap.size≤k:=fun k ⟨j,ob,L',hj,hL',hk⟩=>by
    rcases q154 hj with ⟨rfl,_⟩ | ⟨d1,rfl,_⟩ | ⟨d1,_,_,d4⟩
    · rw [Emb.put_loc] at hL'
      rcases hmblk _ hL' with t | t
      · exact .inl (hk ▸ hlbH _ t)
      · exact .inr (hk ▸ t)
    · rw [(η.put_ne _ _ d1).1] at hL';exact .inl ⟨j,_,L',hb,hL',hk⟩
    · rw [(η.put_ne _ _ d1).1] at hL';exact .inl ⟨j,_,L',d4,hL',hk⟩
  refine ⟨.tuple #[],η.put H.next (η'.loc m) (η'.hdr m),e1,.tup (cs:=[]) (vs:=[]) rfl (fun i c v hc=>by simp at hc),hle,fun j hj=>η.put_ne _ _ (by
      have hnx:(((H.put n none).put b (some (.cells [.rs H.next]))).alloc (.rows S.σ ys)).next=H.next+1:=rfl
      rw [hnx] at hj;omega),Nat.le_succ _,⟨fun j hj hjM=>?_,fun j ob hj=>?_,fun j ob hj=>?_,fun j1 j2 o1 o2 L1 L2 k1 k2 t1 t2 he=>?_,fun k ob hk=>?_,fun k hk=>?_,fun j v hj=>?_⟩,adv.size,fun k hk hl=>adv.same k hk fun hl0=>hl (hlbH k hl0),hlb2,fun k ob hk=>.inl hk,adv.os,adv.tape,adv.output,adv.drawn⟩
  · have hj' : H.next + 1 ≤ j := hj
    have:=η.put_ne (η'.loc m) (η'.hdr m) (show j≠H.next by omega)
    rw [this.1,this.2];exact h.dom j (by omega) hjM
  · show j < H.next + 1
    rcases q154 hj with ⟨rfl,_⟩ | ⟨_,rfl,_⟩ | ⟨_,_,_,d4⟩
    · omega
    · have:=h.lt j _ hb;omega
    · have:=h.lt j _ d4;omega
  · rcases q154 hj with ⟨rfl, rfl⟩ | ⟨d1, rfl, rfl⟩ | ⟨d1, d2, d3, d4⟩
    · cases adv.hr.live m _ gm with
      | rows k1 k2 k3 k4 k5=>exact .rows (by rw [Emb.put_loc];exact k1) (qdm hp k2) (by rw [Emb.put_hdr];exact k3) k4 k5
      | none k1 k2=>exact .none (by rw [Emb.put_loc];exact k1) (by rw [Emb.put_hdr];exact k2)
    · cases adv.hr.live 0 _ g0 with
      | cells k1 k2 =>
        rw [hld] at k1;injection k1 with k1;subst k1
        refine .cells (by rw [(η.put_ne _ _ d1).1];exact hL) ⟨k2.lt,k2.fits,k2.there,fun i c hc=>?_⟩
        cases i with
        | zero =>
          simp only [List.getElem?_cons_zero,Option.some.injEq] at hc;subst hc
          obtain ⟨v,s1,s2⟩:=k2.cell 0 _ rfl
          cases s2 with
          | rs s3=>exact ⟨v,s1,.rs (by rw [Emb.put_hdr];exact s3)⟩
        | succ i=>simp at hc
    · exact (h.live j ob d4).move hle (η.put_ne _ _ d1).1 adv.size fun L' hL'=>adv.same _ (hL0 _ _ _ d4 hL') (hkeep _ _ d4 d2 d3 L' hL')
  · have other:∀ j ob L',j≠H.next→(j=b∨(j≠b∧j≠n∧H.get j=some ob))→η.loc j=some L'→∀ L2,η'.loc m=some L2→L'.block≠L2.block:=fun j ob L' _ hj t L2 hm2 he=>by
      rcases hj with rfl | ⟨c1,c2,c3⟩
      · rw [hL] at t; injection t with t; subst t
        have:=adv.hr.inj 0 m _ _ _ _ g0 gm hld hm2 he
        exact hm0 this.symm
      · rcases hmblk _ hm2 with t2 | t2
        · rw [← he] at t2;exact hkeep j ob c3 c1 c2 L' t t2
        · have:=hL0 _ _ _ c3 t;omega
    rcases q154 k1 with ⟨rfl,_⟩ | ⟨d1,d2,_⟩ | ⟨d1,d2,d3,d4⟩<;>rcases q154 k2 with ⟨rfl,_⟩ | ⟨c1,c2,_⟩ | ⟨c1,c2,c3,c4⟩
    · rfl
    · rw [Emb.put_loc] at t1; rw [(η.put_ne _ _ c1).1] at t2
      exact absurd he.symm (other j2 o2 L2 c1 (.inl c2) t2 L1 t1)
    · rw [Emb.put_loc] at t1; rw [(η.put_ne _ _ c1).1] at t2
      exact absurd he.symm (other j2 o2 L2 c1 (.inr ⟨c2,c3,c4⟩) t2 L1 t1)
    · rw [Emb.put_loc] at t2; rw [(η.put_ne _ _ d1).1] at t1
      exact absurd he (other j1 o1 L1 d1 (.inl d2) t1 L2 t2)
    · rw [d2,c2]
    · subst d2
      rw [(η.put_ne _ _ d1).1] at t1;rw [(η.put_ne _ _ c1).1] at t2
      exact h.inj _ _ _ _ _ _ hb c4 t1 t2 he
    · rw [Emb.put_loc] at t2; rw [(η.put_ne _ _ d1).1] at t1
      exact absurd he (other j1 o1 L1 d1 (.inr ⟨d2,d3,d4⟩) t1 L2 t2)
    · subst c2
      rw [(η.put_ne _ _ d1).1] at t1;rw [(η.put_ne _ _ c1).1] at t2
      exact h.inj _ _ _ _ _ _ d4 hb t1 t2 he
    · rw [(η.put_ne _ _ d1).1] at t1; rw [(η.put_ne _ _ c1).1] at t2
      exact h.inj _ _ _ _ _ _ d4 c4 t1 t2 he
  · exact adv.hr.fz k ob (adv.le.fz k ob (hph.fz k ob hk))
  · show η.fz k = none
    rcases hlb2 k hk with t | t
    · exact h.sep k t
    · cases hf : η.fz k with
      | none=>rfl
      | some o=>have:=(Array.getElem?_eq_some_iff.1 (h.fz k o hf)).1;omega
  · by_cases he : j = H.next
    · subst he;rw [Emb.put_hdr] at hj;exact adv.hr.ok m v hj
    · rw [(η.put_ne _ _ he).2] at hj;exact h.ok j v hj
def orcW (S:WSpec) (C:Orc):Orc:=fun h args H =>
  bif Nat.beq h S.g then (match args.drop S.τ1.length with
    | .ptr b 0 :: a2 => (match H.get b with
      | some (.cells [.rs n]) => (match H.get n with
        | some (.rows σ xs) => if e : σ = S.σ then (match decs H S.τ1 (args.take S.τ1.length), decs H S.τ2 a2 with
          | some x1, some x2 => bif Nat.beq b n || memB (deep H ((args.take S.τ1.length ++ a2).flatMap q69)) b || memB (deep H ((args.take S.τ1.length ++ a2).flatMap q69)) n then none else
            some ⟨List (den S.σ),S.F x1 x2 (e ▸ xs),fun ys=>(.tup [],((H.put n none).put b (some (.cells [.rs H.next]))).alloc (.rows S.σ ys))⟩
          | _,_=>none) else none
        | _=>none)
      | _=>none)
    | _=>none) else C h args H
theorem q156 {S:WSpec} (hS:COKW P S) (hp:qcv S.σ=true) {C:Orc} (hC:OrcOK P C):OrcOK P (orcW S C):=by
  refine ⟨fun h args H p x hp' hx=>?_⟩
  unfold orcW at hp'
  rw [Bool.cond_eq_ite] at hp'
  split at hp'
  · rename_i he
    have he:=Nat.eq_of_beq_eq_true he
    subst he
    split at hp'
    · rename_i b a2 hdr
      split at hp'
      · rename_i n hb
        split at hp'
        · rename_i σ xs hn
          split at hp'
          · rename_i e
            subst e
            split at hp'
            · rename_i x1 x2 d1 d2
              rw [Bool.cond_eq_ite] at hp'
              split at hp'
              · cases hp'
              · rename_i hc
                injection hp' with hp'
                subst hp'
                simp only [Bool.or_eq_true,not_or] at hc
                obtain ⟨⟨c1,c2⟩,c3⟩:=hc
                have hargs:args=args.take S.τ1.length ++ .ptr b 0 :: a2:=by rw [← hdr,List.take_append_drop]
                refine .inl ⟨?_,hS.body⟩
                have:=q155 hS hp d1 d2 hb hn (fun hbn=>c1 (by rw [hbn];simp)) ⟨fun hm=>c2 (q63.2 hm),fun hm=>c3 (q63.2 hm)⟩ hx
                rw [← hargs] at this
                exact this
            · cases hp'
          · cases hp'
        · cases hp'
      · cases hp'
    · cases hp'
  · exact hC.call h args H p x hp' hx
end
def RunA (P:Program) (N M:Nat) (H0:LH) (η0:Emb) (w0:World) (c:Code) (t:Mem) (H:LH) (Q:Exit→Act→World→Prop):Prop:=∀ a w η,SR M N [] η t H a w→Adv M H0 η0 w0 H η w→c.wp P Q a w
def CnA (N M:Nat) (H0:LH) (η0:Emb) (w0:World) (t:Mem) (H:LH) (Q:Exit→Act→World→Prop) (e:Exit):Prop:=∀ a w η,SR M N [] η t H a w→Adv M H0 η0 w0 H η w→Q e a w
section
variable {P:Program} {T:Tys} {C:Orc} {M N:Nat} {H0:LH} {η0:Emb} {w0:World} {Q:Exit→Act→World→Prop} {t:Mem} {H:LH}
theorem q157 {c:Code} (h:RunA P N M H0 η0 w0 c t H Q):CnA N M H0 η0 w0 t H (Exit.then (c.wp P Q) Q) .normal:=h
theorem q159 {K:Act→World→Prop} (h:CnA N M H0 η0 w0 t H Q .ret):CnA N M H0 η0 w0 t H (Exit.then K Q) .ret:=h
theorem q15e (h:CnA N M H0 η0 w0 t H Q .normal):CnA N M H0 η0 w0 t H (Exit.noGoto Q) .normal:=h
theorem q15f (h:CnA N M H0 η0 w0 t H Q .ret):CnA N M H0 η0 w0 t H (Exit.noGoto Q) .ret:=h
theorem q15g (h:CnA N M H0 η0 w0 t H Q .normal):RunA P N M H0 η0 w0 .skip t H Q:=fun a w η hs ha=>wp_skip (h a w η hs ha)
theorem q15h {l:Nat} (h:CnA N M H0 η0 w0 t H Q .normal):RunA P N M H0 η0 w0 (.label l) t H Q:=fun a w η hs ha=>wp_label (h a w η hs ha)
theorem q15j (h:CnA N M H0 η0 w0 t H Q .ret):RunA P N M H0 η0 w0 .ret t H Q:=fun a w η hs ha=>wp_ret (h a w η hs ha)
theorem q15k {x y:Code} (h:RunA P N M H0 η0 w0 x t H (Exit.then (y.wp P Q) Q)):RunA P N M H0 η0 w0 (.seq x y) t H Q:=fun a w η hs ha=>wp_seq (h a w η hs ha)
theorem q15m {c:Code} (h:RunA P N M H0 η0 w0 c t H (Exit.noGoto Q)):RunA P N M H0 η0 w0 (.scope c) t H Q:=fun a w η hs ha=>wp_scope_straight (h a w η hs ha)
theorem q15n {v:Bool} {c:Operand} {x y:Code} (hc:xev t c=.bool v) (ht:v=true→RunA P N M H0 η0 w0 x t H Q) (hf:v=false→RunA P N M H0 η0 w0 y t H Q):RunA P N M H0 η0 w0 (.cond c x y) t H Q:=fun a w η hs ha=>by
  have hv:=q5i hs.tr c
  rw [hc] at hv
  have hcv:a.eval c=.bool v:=by
    generalize a.eval c=u at hv
    cases hv;rfl
  refine wp_cond hcv ?_
  cases v with
  | true=>exact ht rfl a w η hs ha
  | false=>exact hf rfl a w η hs ha
def EndA (N:Nat) {σ:Row} (xs ys:List (den σ)) (η0:Emb) (w0:World) (Q:Exit→Act→World→Prop):Prop :=
  ∀ t H m,H.get 0=some (.cells [.rs m])→H.get m=some (.rows σ ys)→m≠0→CnA N 1000 (wmem xs) η0 w0 t H Q .normal∧CnA N 1000 (wmem xs) η0 w0 t H Q .ret
theorem q15q {S : WSpec} {fn : Func} {c : Code} (hfn : P.funcs[S.g]? = some fn) (hc : fn.body = some c) (hname : ¬ fn.name = "runtime.NumGoroutine") (hres : fn.results = #[])
    (h:∀ x1 x2 xs ys,S.F x1 x2 xs=some ys→∀ η0 w0 Q,EndA fn.ntmps xs ys η0 w0 Q→RunA P fn.ntmps 1000 (wmem xs) η0 w0 c (q7l (nums 0 (q99 S.τ1 x1 ++ .ptr 0 0 :: q99 S.τ2 x2)) .lf) (wmem xs) Q):COKW P S:=by
  refine ⟨fun x1 x2 xs ys hx w η vs hr hv=>?_,fn,c,hfn,hc,hname⟩
  refine calls_of_wp hfn hc ?_
  refine h x1 x2 xs ys hx η w _ (fun t H m g0 gm hm=>?_) _ w η ⟨hr 1000,fun n l hl=>?_,?_,rfl⟩ (Adv.refl (hr 1000))
  · have fin:∀ a w',(∃ η',SR 1000 fn.ntmps [] η' t H a w'∧Adv 1000 (wmem xs) η w H η' w')→a.defers=[]∧∃ v,(results fn a.tmps).run P w'=.ok v w'∧∃ η' H' m,(Ending.returned v)=.returned (.tuple #[])∧Adv 1000 (wmem xs) η w H' η' w'∧H'.get 0=some (.cells [.rs m])∧H'.get m=some (.rows S.σ ys)∧m≠0:=fun a w' ⟨η',hs,ha⟩=>by
      refine ⟨hs.defers,.tuple #[],?_,η',H,m,rfl,ha,g0,gm,hm⟩
      unfold results
      rw [hres]
      simp
    exact ⟨fun a w' η' hs ha=>fin a w' ⟨η',hs,ha⟩,fun a w' η' hs ha=>fin a w' ⟨η',hs,ha⟩⟩
  · rcases q7o _ .lf n l hl with h4 | h4
    · obtain ⟨_, h2⟩ := q9a _ 0 n l h4
      rw [Nat.sub_zero] at h2
      obtain ⟨v,e1,e2⟩:=hv.get h2
      refine ⟨v,?_,e2⟩
      have hlt:=(List.getElem?_eq_some_iff.1 e1).1
      rw [Array.getElem?_append_left (by simpa using hlt)]
      simpa using e1
    · rw [Tr.get_lf] at h4;cases h4
  · simp;omega
def q15r {β:Type} (T:Tys) (C:Orc) (N:Nat):Code→Mem→LH→(Mem→LH→Option β)→(Mem→LH→Option β)→Option β
  | .skip,t,H,kn,_=>kn t H
  | .label _,t,H,kn,_=>kn t H
  | .ret,t,H,_,kr=>kr t H
  | .seq x y,t,H,kn,kr=>q15r T C N x t H (fun t H=>q15r T C N y t H kn kr) kr
  | .scope x,t,H,kn,kr=>q15r T C N x t H kn kr
  | .cond c x y, t, H, kn, kr => match xev t c with
    | .bool v=>bif v then q15r T C N x t H kn kr else q15r T C N y t H kn kr
    | _=>none
  | .region _ ops true,t,H,kn,_=>q6w T C N ops t H fun t H=>bif Nat.ble H.next 1000 then kn t H else none
  | .region _ ops false,t,H,kn,_=>tops T C N ops ops.toList t H fun t H=>bif Nat.ble H.next 1000 then kn t H else none
  | _,_,_,_,_=>none
theorem q15s {β:Type} {b:β} (hm:P.follows .mixedOrders=true) (hT:TysOK P T) (hC:OrcOK P C):∀ (c:Code) (t:Mem) (H:LH) (kn kr:Mem→LH→Option β) (Q:Exit→Act→World→Prop),q15r T C N c t H kn kr=some b →
    (∀ t' H',kn t' H'=some b→CnA N 1000 H0 η0 w0 t' H' Q .normal)→(∀ t' H',kr t' H'=some b→CnA N 1000 H0 η0 w0 t' H' Q .ret)→RunA P N 1000 H0 η0 w0 c t H Q:=by
  intro c
  induction c with
  | skip=>intro t H kn kr Q h h1 h2;exact q15g (h1 t H h)
  | label l=>intro t H kn kr Q h h1 h2;exact q15h (h1 t H h)
  | ret=>intro t H kn kr Q h h1 h2;exact q15j (h2 t H h)
  | seq x y ihx ihy =>
    intro t H kn kr Q h h1 h2
    exact q15k (ihx t H _ kr _ h (fun t' H' h'=>q157 (ihy t' H' kn kr Q h' h1 h2)) fun t' H' h'=>q159 (h2 t' H' h'))
  | scope x ih =>
    intro t H kn kr Q h h1 h2
    exact q15m (ih t H kn kr _ h (fun t' H' h'=>q15e (h1 t' H' h')) fun t' H' h'=>q15f (h2 t' H' h'))
  | cond c x y ihx ihy =>
    intro t H kn kr Q h h1 h2
    rw [q15r] at h
    split at h
    · rename_i v hv
      refine q15n hv (fun he=>?_) (fun he=>?_)
      · subst he;exact ihx t H kn kr Q h h1 h2
      · subst he;exact ihy t H kn kr Q h h1 h2
    · cases h
  | region id ops draw =>
    intro t H kn kr Q h h1 h2
    intro a w η hs ha
    have low:∀ t' (H':LH),(bif Nat.ble H'.next 1000 then kn t' H' else none)=some b→H'.next≤1000∧kn t' H'=some b:=fun t' H' h=>by
      obtain ⟨e1,e2⟩:=qdw (A:=kn t' H') h
      exact ⟨Nat.le_of_ble_eq_true e1,e2⟩
    cases draw with
    | true =>
      obtain ⟨t',H',e1,_,e3⟩:=q7k (D:=[]) hm hT hC h
      obtain ⟨l1,l2⟩:=low t' H' e1
      exact wp_region_any hm (e3 1000 η a w Q l1 hs fun a' w' η' hs' hadv=>h1 t' H' l2 a' w' η' hs' (ha.trans hadv))
    | false =>
      obtain ⟨t',H',e1,_,e3⟩:=q62 (D:=[]) hT hC _ h
      obtain ⟨l1,l2⟩:=low t' H' e1
      exact wp_region_list (e3 1000 η a w Q l1 hs fun a' w' η' hs' hadv=>h1 t' H' l2 a' w' η' hs' (ha.trans hadv))
  | _=>intro t H kn kr Q h;cases h
def finA (σ:Row) (_:Mem) (H:LH):Option (List (den σ)) :=
  match H.get 0 with
  | some (.cells [.rs m]) => match H.get m with
    | some (.rows σ' ys)=>if e:σ'=σ then (bif Nat.beq m 0 then none else some (e ▸ ys)) else none
    | _=>none
  | _=>none
theorem q15t (hm : P.follows .mixedOrders = true) (hT : TysOK P T) (hC : OrcOK P C) {S : WSpec} {fn : Func} {c : Code} (hfn : P.funcs[S.g]? = some fn) (hc : fn.body = some c) (hname : ¬ fn.name = "runtime.NumGoroutine") (hres : fn.results = #[])
    (h:∀ x1 x2 xs,q15r T C fn.ntmps c (q7l (nums 0 (q99 S.τ1 x1 ++ .ptr 0 0 :: q99 S.τ2 x2)) .lf) (wmem xs) (finA S.σ) (finA S.σ)=S.F x1 x2 xs):COKW P S:=by
  refine q15q hfn hc hname hres fun x1 x2 xs ys hx η0 w0 Q hend=>?_
  have key:∀ t' H',finA S.σ t' H'=some ys→∃ m,H'.get 0=some (.cells [.rs m])∧H'.get m=some (.rows S.σ ys)∧m≠0:=fun t' H' hf=>by
    unfold finA at hf
    split at hf
    · rename_i m h0
      split at hf
      · rename_i σ' zs hm'
        split at hf
        · rename_i e
          subst e
          obtain ⟨e1,e2⟩:Nat.beq m 0=false∧zs=ys:=by
            cases hb:Nat.beq m 0 with
            | true=>rw [hb] at hf;cases hf
            | false=>rw [hb] at hf;exact ⟨rfl,Option.some.inj hf⟩
          subst e2
          exact ⟨m,h0,hm',Nat.ne_of_beq_eq_false e1⟩
        · cases hf
      · cases hf
    · cases hf
  refine q15s hm hT hC c _ _ _ _ Q ((h x1 x2 xs).trans hx) (fun t' H' hf=>?_) fun t' H' hf=>?_
  · obtain ⟨m,g0,gm,gn⟩:=key t' H' hf;exact (hend t' H' m g0 gm gn).1
  · obtain ⟨m,g0,gm,gn⟩:=key t' H' hf;exact (hend t' H' m g0 gm gn).2
end
end Go.Tx

namespace Go.Proofs.Ytpgpbhjkgciggaa
open Go Go.Tx Go.Proofs.Try
set_option maxRecDepth 100000
set_option maxHeartbeats 0
abbrev q15u:List Pk:=[.row Rii true,.row Ri false]
abbrev q15v:Type:=(Dii×Di×Unit)×Unit×List Diii
abbrev q15w:Type:=List Diii
def q15x (F:q15v→Option q15w):WSpec:=⟨26,q15u,[],Riii,fun a b c=>F (a,b,c)⟩
def q15y (x:q15v):Option q15w :=
  bif ((List.length x.2.2:Int) == 0) then bif apB (List.length x.2.2) 1 then some (x.2.2 ++ [(x.1.1.1,x.1.1.2.1,x.1.2.1.1,())]) else none else
  bif inB (IntKind.i64.wrap ((List.length x.2.2:Int) - 1)) (List.length x.2.2) then
    bif !((elt ziii x.2.2 (IntKind.i64.wrap ((List.length x.2.2:Int) - 1)).toNat).2.2.1 == x.1.2.1.1) then bif apB (List.length x.2.2) 1 then some (x.2.2 ++ [(x.1.1.1,x.1.1.2.1,x.1.2.1.1,())]) else none else some x.2.2
  else none
theorem q15z (x1:dens q15u) (x2:dens []) (xs:List (den Riii)) :
    q15r tysT (orc []) (f26).ntmps (qdv f26) (q7l (nums 0 (q99 q15u x1 ++ .ptr 0 0 :: q99 [] x2)) .lf) (wmem xs) (finA Riii) (finA Riii)=q15y (x1,x2,xs):=by kernel_rfl
def q160 (_d:Nat) (x:q15v):Option q15w:=q15y x
theorem q161 (d:Nat):COKW prog (q15x (q160 d)):=by
  have hC0:OrcOK prog (orc []):=qdp (by intro S hS;cases hS)
  exact q15t (c:=qdv f26) (fn:=f26) mixed tys hC0 (by kernel_rfl) (by kernel_rfl) (by decide) (by kernel_rfl) fun x1 x2 xs=>q15z x1 x2 xs
end Go.Proofs.Ytpgpbhjkgciggaa

namespace Go.Tx
open Go
structure CSpec where
  g:FuncId
  τ1:List Pk
  τ2:List Pk
  σ:Row
  F:dens τ1→dens τ2→List (den σ)→Option (List (den σ))
def cmem {σ:Row} (xs:List (den σ)):LH:=q7n [.rows σ xs]
abbrev cFz {σ:Row} (xs:List (den σ)) (η:Emb):Fz0:=⟨η.fz,fun _ _=>False,[],fun k=>LB (cmem xs) η k⟩
structure COKC (P:Program) (S:CSpec):Prop where
  ok:∀ x1 x2 xs ys,S.F x1 x2 xs=some ys→∀ (w:World) (η:Emb) (vs:List Value),(∀ M,HR M η (cmem xs) w)→VRs η (q99 S.τ1 x1 ++ .rs 0 :: q99 S.τ2 x2) vs →
    Calls P S.g vs.toArray w fun e w'=>∃ v' η',e=.returned v'∧VR η' (.rs 0) v'∧(∀ M,HR M η' (cmem ys) w')∧Fr w (cFz xs η) (cmem ys) η' w'
  body:q5e P S.g
section
variable {P:Program} {M:Nat} {H:LH} {η:Emb} {w:World}
theorem q162 {σ:Row} {xs:List (den σ)} {n:Nat} (hn:H.get n=some (.rows σ xs)):q88 H [n] [n]=some [.rows σ xs]:=by
  simp [q88,hn,q85]
theorem q163 {σ:Row} {ys:List (den σ)} {n k:Nat} {ob:Ob} (h:((H.put n none).alloc (.rows σ ys)).get k=some ob):(k=H.next∧ob=.rows σ ys)∨(k≠H.next∧k≠n∧H.get k=some ob):=by
  rw [LH.get_alloc] at h
  have e:(H.put n none).next=H.next:=rfl
  rw [e] at h
  split at h
  · rename_i h1;injection h with h;exact .inl ⟨h1,h.symm⟩
  · rename_i h1
    rw [LH.get_put] at h
    split at h
    · cases h
    · rename_i h3;exact .inr ⟨h1,h3,h⟩
theorem q164 {S:CSpec} (hS:COKC P S) (hp:qcv S.σ=true) {a1 a2:List LV} {n:Nat} {xs ys:List (den S.σ)} {x1:dens S.τ1} {x2:dens S.τ2} (h1:decs H S.τ1 a1=some x1) (h2:decs H S.τ2 a2=some x2)
    (hn:H.get n=some (.rows S.σ xs)) (hA:n ∉ deep H ((a1++a2).flatMap q69)) (hF:S.F x1 x2 xs=some ys) :
    q5d P S.g (a1 ++ .rs n :: a2) H (.rs H.next,(H.put n none).alloc (.rows S.σ ys)):=by
  generalize hAe:deep H ((a1++a2).flatMap q69)=A at hA
  have hAm:∀ l∈a1++a2,∀ k∈deep H (q69 l),k∈A:=fun l hl k hk=>by rw [← hAe];exact qdg (fun m hm=>List.mem_flatMap.2 ⟨l,hl,hm⟩) hk
  refine ⟨(Logged.put H hn none).trans (Logged.alloc _ _),fun M η w vs h hM hv=>?_⟩
  have hM':H.next<M:=hM
  obtain ⟨φ,hph⟩:=qda H η w A
  have hphi:∀ k ob,φ k=some ob→w.heap[k]?=some ob:=fun k ob hk=>by
    rcases hph.cases k ob hk with h1 | ⟨_,_,h1⟩
    · exact h.fz k ob h1
    · exact h1
  have hnd:q8c [n]=true:=rfl
  have hsub:=q8e hnd (q162 hn) h
  let η0:Emb:=⟨(η.sub [n]).loc,(η.sub [n]).hdr,φ⟩
  have l0:η0.loc 0=η.loc n:=rfl
  have d0:η0.hdr 0=η.hdr n:=rfl
  have lx:∀ k,1≤k→η0.loc k=none:=fun k hk=>by
    show ([n][k]?).bind η.loc=none
    rw [List.getElem?_eq_none (by simpa using hk)];rfl
  have hle0:(η.sub [n]).le η0:=⟨fun _ _ h=>h,fun _ _ h=>h,fun k ob hk=>hph.fz k ob hk⟩
  have hlb0:∀ k,LB (cmem xs) η0 k→∃ L',η.loc n=some L'∧L'.block=k:=fun k ⟨j,ob,L',hj,hL',hk⟩=>by
    match j with
    | 0=>exact ⟨L',hL',hk⟩
    | j+1=>rw [lx _ (by omega)] at hL';cases hL'
  have hlbH:∀ k,LB (cmem xs) η0 k→LB H η k:=fun k hk=>let ⟨L',g2,g3⟩:=hlb0 k hk;⟨n,_,L',hn,g2,g3⟩
  have hsep0:∀ k,LB (cmem xs) η0 k→φ k=none:=fun k hk=>by
    cases hf:φ k with
    | none=>rfl
    | some o =>
      exfalso
      obtain ⟨L',g2,g3⟩:=hlb0 k hk
      rcases hph.cases k o hf with h3 | ⟨_,⟨m,hm,ob',L2,m1,m2,m3⟩,_⟩
      · rw [h.sep k (hlbH k hk)] at h3;cases h3
      · have := h.inj n m _ _ _ _ hn m1 g2 m2 (by rw [g3, m3])
        subst this
        exact hA hm
  have hr0:∀ M,HR M η0 (cmem xs) w:=fun M=>⟨(hsub M).dom,(hsub M).lt,fun j ob hj=>((hsub M).live j ob hj).move hle0 rfl (Nat.le_refl _) fun _ _=>rfl,(hsub M).inj,hphi,hsep0,(hsub M).ok⟩
  have hfro:(Emb.fro φ).le η0:=⟨fun _ _ h=>(by cases h),fun _ _ h=>(by cases h),fun _ _ h=>h⟩
  obtain ⟨us,v0,us2,rfl,q1,q0,q2⟩:∃ us v0 us2,vs=us++v0 :: us2∧VRs η a1 us∧VR η (.rs n) v0∧VRs η a2 us2:=by
    have t1:=hv.take a1.length
    have t2:=hv.drop a1.length
    rw [List.take_left] at t1
    rw [List.drop_left] at t2
    obtain ⟨v0,us2,e,g1,g2⟩:=t2.uncons
    exact ⟨vs.take a1.length,v0,us2,by rw [← e,List.take_append_drop],t1,g1,g2⟩
  have r1:=(qdj h hph h1 (fun l hl=>hAm l (List.mem_append_left _ hl)) q1).mono hfro
  have r2:=(qdj h hph h2 (fun l hl=>hAm l (List.mem_append_right _ hl)) q2).mono hfro
  have r0:VR η0 (.rs 0) v0:=by
    cases q0 with
    | rs hq=>exact .rs (by rw [d0];exact hq)
  refine Calls.mono (hS.ok x1 x2 xs ys hF w η0 _ hr0 (r1.append (VRs.cons r0 r2))) fun e w' ⟨v',η',e1,ev,e3,e4⟩=>?_
  have gm:(cmem ys).get 0=some (.rows S.σ ys):=by unfold cmem;rw [q7q];rfl
  have hle:=h.le_put hM' (η'.loc 0) (η'.hdr 0)
  have hL0:∀ j ob L',H.get j=some ob→η.loc j=some L'→L'.block<w.heap.size:=fun j ob L' g1 g2=>(h.live j ob g1).lt g2
  have hkeep:∀ j ob,H.get j=some ob→j≠n→∀ L',η.loc j=some L'→¬ LB (cmem xs) η0 L'.block:=fun j ob g1 n2 L' g2 hl=>by
    obtain ⟨L2,k2,k3⟩:=hlb0 _ hl
    exact n2 (h.inj n j _ _ _ _ hn g1 k2 g2 k3).symm
  have hmblk:∀ L',η'.loc 0=some L'→w.heap.size≤L'.block∨LB (cmem xs) η0 L'.block:=fun L' hl=>e4.lb _ ⟨0,_,L',gm,hl,rfl⟩
  have hlb2:∀ k,LB ((H.put n none).alloc (.rows S.σ ys)) (η.put H.next (η'.loc 0) (η'.hdr 0)) k→LB H η k∨w.heap.size≤k:=fun k ⟨j,ob,L',hj,hL',hk⟩=>by
    rcases q163 hj with ⟨rfl,_⟩ | ⟨d1,_,d4⟩
    · rw [Emb.put_loc] at hL'
      rcases hmblk _ hL' with t | t
      · exact .inr (hk ▸ t)
      · exact .inl (hk ▸ hlbH _ t)
    · rw [(η.put_ne _ _ d1).1] at hL';exact .inl ⟨j,_,L',d4,hL',hk⟩
  refine ⟨v',η.put H.next (η'.loc 0) (η'.hdr 0),e1,?_,hle,fun j hj=>η.put_ne _ _ (by
      have hnx:((H.put n none).alloc (.rows S.σ ys)).next=H.next+1:=rfl
      rw [hnx] at hj;omega),Nat.le_succ _,⟨fun j hj hjM=>?_,fun j ob hj=>?_,fun j ob hj=>?_,fun j1 j2 o1 o2 L1 L2 k1 k2 t1 t2 he=>?_,fun k ob hk=>?_,fun k hk=>?_,fun j v hj=>?_⟩,e4.size,fun k hk hl=>e4.same k hk fun hl0=>hl (hlbH k hl0),hlb2,fun k ob hk=>.inl hk,e4.os,e4.tape,e4.output,e4.drawn⟩
  · cases ev with
    | rs hq=>exact .rs (by rw [Emb.put_hdr];exact hq)
  · have hj' : H.next + 1 ≤ j := hj
    have:=η.put_ne (η'.loc 0) (η'.hdr 0) (show j≠H.next by omega)
    rw [this.1,this.2];exact h.dom j (by omega) hjM
  · show j < H.next + 1
    rcases q163 hj with ⟨rfl,_⟩ | ⟨_,_,d4⟩
    · omega
    · have:=h.lt j _ d4;omega
  · rcases q163 hj with ⟨rfl, rfl⟩ | ⟨d1, d3, d4⟩
    · cases (e3 0).live 0 _ gm with
      | rows k1 k2 k3 k4 k5=>exact .rows (by rw [Emb.put_loc];exact k1) (qdm hp k2) (by rw [Emb.put_hdr];exact k3) k4 k5
      | none k1 k2=>exact .none (by rw [Emb.put_loc];exact k1) (by rw [Emb.put_hdr];exact k2)
    · exact (h.live j ob d4).move hle (η.put_ne _ _ d1).1 e4.size fun L' hL'=>e4.same _ (hL0 _ _ _ d4 hL') (hkeep _ _ d4 d3 L' hL')
  · have other:∀ j ob L',j≠n→H.get j=some ob→η.loc j=some L'→∀ L2,η'.loc 0=some L2→L'.block≠L2.block:=fun j ob L' c2 c3 t L2 hm2 he=>by
      rcases hmblk _ hm2 with t2 | t2
      · have:=hL0 _ _ _ c3 t;omega
      · rw [← he] at t2;exact hkeep j ob c3 c2 L' t t2
    rcases q163 k1 with ⟨rfl,_⟩ | ⟨d1,d3,d4⟩<;>rcases q163 k2 with ⟨rfl,_⟩ | ⟨c1,c3,c4⟩
    · rfl
    · rw [Emb.put_loc] at t1; rw [(η.put_ne _ _ c1).1] at t2
      exact absurd he.symm (other j2 o2 L2 c3 c4 t2 L1 t1)
    · rw [Emb.put_loc] at t2; rw [(η.put_ne _ _ d1).1] at t1
      exact absurd he (other j1 o1 L1 d3 d4 t1 L2 t2)
    · rw [(η.put_ne _ _ d1).1] at t1; rw [(η.put_ne _ _ c1).1] at t2
      exact h.inj _ _ _ _ _ _ d4 c4 t1 t2 he
  · exact (e3 0).fz k ob (e4.fz0 k ob (hph.fz k ob hk))
  · show η.fz k = none
    rcases hlb2 k hk with t | t
    · exact h.sep k t
    · cases hf : η.fz k with
      | none=>rfl
      | some o=>have:=(Array.getElem?_eq_some_iff.1 (h.fz k o hf)).1;omega
  · by_cases he : j = H.next
    · subst he;rw [Emb.put_hdr] at hj;exact (e3 0).ok 0 v hj
    · rw [(η.put_ne _ _ he).2] at hj;exact h.ok j v hj
def orcC (S:CSpec) (C:Orc):Orc:=fun h args H =>
  bif Nat.beq h S.g then (match args.drop S.τ1.length with
    | .rs n :: a2=>(match H.get n with
        | some (.rows σ xs) => if e : σ = S.σ then (match decs H S.τ1 (args.take S.τ1.length), decs H S.τ2 a2 with
          | some x1, some x2 => bif memB (deep H ((args.take S.τ1.length ++ a2).flatMap q69)) n then none else
            some ⟨List (den S.σ),S.F x1 x2 (e ▸ xs),fun ys=>(.rs H.next,(H.put n none).alloc (.rows S.σ ys))⟩
          | _,_=>none) else none
        | _=>none)
    | _=>none) else C h args H
theorem q165 {S:CSpec} (hS:COKC P S) (hp:qcv S.σ=true) {C:Orc} (hC:OrcOK P C):OrcOK P (orcC S C):=by
  refine ⟨fun h args H p x hp' hx=>?_⟩
  unfold orcC at hp'
  rw [Bool.cond_eq_ite] at hp'
  split at hp'
  · rename_i he
    have he:=Nat.eq_of_beq_eq_true he
    subst he
    split at hp'
    · rename_i n a2 hdr
      split at hp'
      · rename_i σ xs hn
        split at hp'
        · rename_i e
          subst e
          split at hp'
          · rename_i x1 x2 d1 d2
            rw [Bool.cond_eq_ite] at hp'
            split at hp'
            · cases hp'
            · rename_i hc
              injection hp' with hp'
              subst hp'
              have hargs:args=args.take S.τ1.length ++ .rs n :: a2:=by rw [← hdr,List.take_append_drop]
              refine .inl ⟨?_,hS.body⟩
              have:=q164 hS hp d1 d2 hn (fun hm=>hc (q63.2 hm)) hx
              rw [← hargs] at this
              exact this
          · cases hp'
        · cases hp'
      · cases hp'
    · cases hp'
  · exact hC.call h args H p x hp' hx
theorem q166 {T : Tys} (hT : TysOK P T) {S : CSpec} {fn : Func} {c : Code} (hfn : P.funcs[S.g]? = some fn) (hc : fn.body = some c) (hname : ¬ fn.name = "runtime.NumGoroutine")
    (h:∀ x1 x2 xs ys,S.F x1 x2 xs=some ys→∀ w0 φ0 Q,End T w0 φ0 fn.ntmps fn.results.toList (.rs 0,[.rows S.σ ys]) Q→Run P w0 φ0 fn.ntmps c ⟨nums 0 (q99 S.τ1 x1 ++ .rs 0 :: q99 S.τ2 x2),[.rows S.σ xs]⟩ Q):COKC P S:=by
  refine ⟨fun x1 x2 xs ys hx w η vs hr hv=>?_,fn,c,hfn,hc,hname⟩
  refine calls_of_wp hfn hc ?_
  refine h x1 x2 xs ys hx w (cFz xs η) _ (fun s hs=>?_) _ w ⟨⟨η,hr,fun n l hl=>?_,⟨Nat.le_refl _,fun _ _ _=>rfl,fun k hk=>.inr hk,fun _ _ h=>h,fun _ _ h=>.inl h,rfl,rfl,rfl,Nat.le_refl _,fun _ _ h=>h.elim⟩⟩,?_,rfl⟩
  · have fin : ∀ a w', SS w (cFz xs η) fn.ntmps s a w' → _ := q9d (S := ⟨S.g, [], Unit, fun _ => none, fun _ => (.rs 0, [.rows S.σ ys])⟩) (r := ()) hT hs
    exact ⟨fun a w' hss=>fin a w' hss,fun a w' hss=>fin a w' hss⟩
  · obtain ⟨_, h2⟩ := q9a _ 0 n l hl
    rw [Nat.sub_zero] at h2
    obtain ⟨v,e1,e2⟩:=hv.get h2
    refine ⟨v,?_,e2⟩
    have hlt:=(List.getElem?_eq_some_iff.1 e1).1
    rw [Array.getElem?_append_left (by simpa using hlt)]
    simpa using e1
  · simp;omega
theorem q167 {T : Tys} (hT : TysOK P T) {S : CSpec} {fn : Func} {c : Code} (hfn : P.funcs[S.g]? = some fn) (hc : fn.body = some c) (hname : ¬ fn.name = "runtime.NumGoroutine")
    (h:∀ (x:dens S.τ1×dens S.τ2×List (den S.σ)) (r:List (den S.σ)),S.F x.1 x.2.1 x.2.2=some r→∀ w0 φ0 Q,End T w0 φ0 fn.ntmps fn.results.toList (.rs 0,[.rows S.σ r]) Q→Run P w0 φ0 fn.ntmps c ⟨nums 0 (q99 S.τ1 x.1 ++ .rs 0 :: q99 S.τ2 x.2.1),[.rows S.σ x.2.2]⟩ Q):COKC P S :=
  q166 hT hfn hc hname fun x1 x2 xs ys hx=>h (x1,x2,xs) ys hx
end
end Go.Tx
