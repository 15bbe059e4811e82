/- Walks of the references; the orders agree; examples. -/
import Derived.RangeFuncRecord
import Derived.RangeFuncSeq
import Derived.RangeFuncBound
import Derived.Shelf.Abstract
import Derived.Shelf.RegionOpen
import Derived.WalkKit
import Derived.OwnWalkIn
import Derived.TacticsInMore
import Derived.LoopNIn
import Derived.LoopIn
import Derived.Shelf.SlSortCmp.NoneTotal
import Derived.Test.YtpfhgnccpiildaaGreatProg
import Derived.Shelf.Spec.BitsCarry
import Derived.Test.YtpfhgnccpiildaaGreatGc
set_option linter.unusedSimpArgs false
set_option linter.unusedVariables false
namespace Go.Pel
open Go Go.RowKit
def ordK (l:List Pt) (n d:Int) (k:Nat):List Int:=(l.take k).foldl (fun acc p=>acc.set (qsb l p n d) p.id) (List.replicate l.length 0)
theorem qsj (l:List Pt) (n d:Int) (k:Nat):(ordK l n d k).length=l.length:=by
  unfold ordK
  have:∀ (m:List Pt) (acc:List Int),(m.foldl (fun acc p=>acc.set (qsb l p n d) p.id) acc).length=acc.length:=by
    intro m;induction m with
    | nil=>intro acc;rfl
    | cons a r ih=>intro acc;rw [List.foldl_cons,ih,List.length_set]
  rw [this,List.length_replicate]
theorem qsk {l:List Pt} {n d:Int} {k:Nat} {p:Pt} (h:l[k]?=some p):ordK l n d (k+1)=(ordK l n d k).set (qsb l p n d) p.id:=by
  unfold ordK
  rw [List.take_add_one,h,List.foldl_append];rfl
theorem qsl {l:List Pt} {p:Pt} (h:p∈l) (n d:Int):qsb l p n d<l.length:=by
  unfold qsb
  rw [List.length_filter_lt_length_iff_exists]
  exact ⟨p,h,by simp⟩
theorem qsm (l:List Int) (k:Nat) (x:Int):vi (l.set k x)=(vi l).set k (.int .i64 x):=by simp [vi,List.map_set]
theorem qsn {l:List Int} {k:Nat} (h:k<l.length):∃ x,(vi l)[k]?=some (.int .i64 x):=⟨l[k],by simp [vi,h]⟩
end Go.Pel
namespace Go.Proofs.YtpfhgnccpiildaaGreat
open Go.RowKit Go.Pel
theorem qso (A:Option Addr) (c:Nat) (l:List Pt) (p:Pt) (n d:Int) (R:Nat) (hR:qsb l p n d=R) (w:World) (hs:Sl w 3 A l.length c (vp l)) (hl:l.length≤1000000) (hin:∀ q∈l,CmpIn q p n d) :
    Calls Tryz.prog 158 #[.agg #[.slice A l.length c],.agg #[.int .i64 p.id,.int .i64 p.a,.int .i64 p.b],.agg #[.int .i64 n,.int .i64 d]] w fun e w'=>e=.returned (.int .i64 (R:Int))∧∃ x,w'=ext w x:=hR ▸ qsi A c l p n d w hs hl hin
set_option maxRecDepth 10000 in
set_option maxHeartbeats 2000000 in
theorem qsp (A:Option Addr) (c:Nat) (l:List Pt) (n d:Int) (w:World) (hs:Sl w 3 A l.length c (vp l)) (hl:l.length≤1000000) (hin:∀ p∈l,∀ q∈l,CmpIn q p n d) :
    Calls Tryz.prog 132 #[.agg #[.slice A l.length c],.agg #[.int .i64 n,.int .i64 d]] w fun e w'=>∃ A' c',e=.returned (.slice A' l.length c')∧∃ x,w'=ext w x∧Own (ext w x) w.heap.size 3 1 A' l.length c' (vi (ordK l n d l.length)):=by
  have HIN:=Lib.hid hin;clear hin
  go_enter Tryz.func132,Tryz.ntmps132
  go_wp2_with (refine qei qs3 (Bel.refl _) (n:=l.length) (by omega) rfl _ _ rfl rfl rfl ?_;rintro g y hg hown;rw [qs4] at hown)
  go_loopw [6] (fun i wr=>∃ (k:Nat) (y:Beyond),k≤l.length∧i=.int .i64 k∧wr=ext ((w.alloc (.cells #[.slice A l.length c] 24)).alloc (.cells #[.int .i64 n,.int .i64 d] 26)) y∧Own (ext ((w.alloc (.cells #[.slice A l.length c] 24)).alloc (.cells #[.int .i64 n,.int .i64 d] 26)) y) (w.heap.size+2) 3 1 (some ⟨g,0,none⟩) l.length l.length (vi (ordK l n d k))) (fun i _=>l.length - (intOf i).toNat)
  case atStart=>exact ⟨0,y,Nat.zero_le _,rfl,rfl,by simpa [ordK,vi,go_sem] using hown⟩
  case round =>
    obtain ⟨k,y3,hk,rfl,rfl,own3⟩:=hrel
    have hg2:=own3.ats
    clear hown
    by_cases hlt:k<l.length
    · obtain ⟨p, hp⟩ : ∃ p, l[k]? = some p := ⟨_, List.getElem?_eq_getElem hlt⟩
      have HS:=Lib.hid (qsk (n:=n) (d:=d) hp)
      have hpm:=List.mem_of_getElem? hp
      have hR:=qsl hpm n d
      obtain ⟨R,hR'⟩:∃ R,qsb l p n d=R:=⟨_,rfl⟩
      have q1:=Lib.hid (fun W hb=>qso A c l p n d R hR' W (hs.bel (w':=W) hb) hl (HIN.out p hpm))
      rw [hR'] at HS hR
      obtain ⟨u,hu⟩:=qsn (l:=ordK l n d k) (k:=R) (by rw [qsj];exact hR)
      have b0:=qek own3 hu
      have z0:=qel own3 R
      obtain ⟨b,o,rfl,hb2⟩:=hs.at_ (by omega)
      obtain ⟨r0,r1,r2⟩:=qg0 hs hp
      have hlt':(k:Int)<(l.length:Int):=by omega
      have hRl:(R:Int)<(l.length:Int):=by omega
      have hgs:=hg2.2
      simp [go_sem] at hgs
      clear hp hR' hu hg2 hpm hR
      go_wp2
      ((first | refine RegC.wp_region_tail1 16 (by kernel_rfl) (by kernel_rfl) ?_ | refine RegC.wp_region_tail0 16 (by kernel_rfl) (by kernel_rfl) ?_);simp only [List.take_succ_cons,List.take_zero,List.drop_succ_cons,List.drop_zero];(repeat (any_goals (first | go_big_quiet_step ((go_at_call 158;with_reducible first | exact Calls.ext_of1 (q1.out _ (by (try simp only [qbj]);repeat (first | exact Bel.refl _ | assumption | refine qbs ?_ _ | refine qbt ?_ _ | refine Bel.ext ?_ _ | refine Bel.alloc ?_ _ | refine Bel.drewN ?_ _))) | exact Calls.ext_of (q1.out _ (by (try simp only [qbj]);repeat (first | exact Bel.refl _ | assumption | refine qbs ?_ _ | refine qbt ?_ _ | refine Bel.ext ?_ _ | refine Bel.alloc ?_ _ | refine Bel.drewN ?_ _))))) | (refine RegC.wpQuiet_split rfl rfl (fun hb=>?_) (fun hb=>?_)<;>simp only [hb]))));all_goals (refine wpQuiet_nil ?_;rintro _ ⟨nq,rfl⟩))
      go_wp2
      go_roundw
      case rel =>
        obtain ⟨y5,hy5,own5⟩:=qf9 ((q8j _ (y3.and nq)).setCell (p:=⟨g,R,none⟩) hg (.int .i64 p.id)) (World.ownsRow.stored (own3.bel (qbs (Bel.refl _) nq)) R (.int .i64 p.id)).1 (Bel.refl _)
        rw [← qsm,← HS.out] at own5
        exact ⟨k+1,y5,by omega,by go_num,hy5,own5⟩
      case measure=>(first | (simp [intOf];done) | (simp [intOf];omega))
    · obtain rfl : k = l.length := by omega
      go_wp2
      refine bodyPost_ret (v:=.slice (some ⟨g,0,none⟩) l.length l.length) (by simp [results,Tryz.results132,go_sem]) rfl ?_
      exact ⟨_,_,rfl,qf9 (by (try simp only [qbj]);repeat (first | exact Bel.refl _ | assumption | refine qbs ?_ _ | refine qbt ?_ _ | refine Bel.ext ?_ _ | refine Bel.alloc ?_ _ | refine Bel.drewN ?_ _)) (own3.base_le (by omega)) (Bel.refl _)⟩
end Go.Proofs.YtpfhgnccpiildaaGreat

namespace Go
open RowKit
def qsq (o:Obj):Prop:=∀ cs e f,o ≠ .cells cs e f
structure Records (b:Nat) (W W':World):Prop where
  keep:∀ (k:Nat) (o:Obj),b≤k→W.heap[k]?=some o→qsq o→W'.heap[k]?=some o
theorem Records.refl (b:Nat) (W:World):Records b W W:=⟨fun _ _ _ h _=>h⟩
theorem Records.trans {b:Nat} {A B D:World} (h:Records b A B) (k:Records b B D):Records b A D:=⟨fun i o hb h1 h2=>k.keep i o hb (h.keep i o hb h1 h2) h2⟩
theorem Records.bel {b:Nat} {A B:World} (h:Bel A B):Records b A B:=⟨fun k o _ h1 _=>by
  have hl:k<A.heap.size:=(Array.getElem?_eq_some_iff.1 h1).1
  rw [h.block k hl];exact h1⟩
section
variable {F:Fence} {n:Nat} {P:Program}
theorem qst {f:Nat} {args:Array Value} {w:World} {R:Ending→World→Prop} (l:Nat) (h:CallsIn F n P f args w R):CallsIn (F.inRound l) n P f args w R:=h
end
end Go

namespace Go
namespace RegC
section
variable {P:Program} {ops:Array Oper} {md:Region.Mode} {Q:Exit→Act→World→Prop} {l n:Nat}
def qsx (ops:Array Oper):Bool:=ops.all fun o=>match o.op with | .defer _=>false | _=>true
theorem qsy {i:Nat} {o:Oper} (h:qsx ops=true) (ho:ops[i]?=some o):∀ c,o.op ≠ .defer c:=by
  intro c hc
  unfold qsx at h
  have hi:=(Array.getElem?_eq_some_iff.1 ho)
  obtain ⟨hi,he⟩:=hi
  have:=Array.all_eq_true.1 h i hi
  rw [he,hc] at this
  cases this
theorem qsz {o:Oper} {a:Act} {w:World} {K:Act→World→Prop} (hd:∀ c,o.op ≠ .defer c) (h:Oper.wp P o a w K Q):Oper.wpIn (Fence.wide.inRound l) n P o a w K Q:=by
  refine ⟨fun _ _=>trivial,?_⟩
  rw [Oper.semAt_plain (Fence.wide.inRound l) _ _ hd]
  unfold Oper.wp at h
  cases hr:(execOp a.eval o).run P w with
  | ok x w' =>
    rw [hr] at h
    cases x with
    | value v=>exact h
    | skip=>exact h
    | defer d=>exact h
    | enter f args=>exact ⟨fun hh=>by simp [Fence.wide] at hh,qst l (callsIn_wide.2 h)⟩
    | row row args=>exact ⟨fun hh=>by simp [Fence.wide] at hh,fun c cs _=>by obtain ⟨v,w',r,s⟩:=h c cs;exact ⟨v,w',r,stepsIn_wide.2 s⟩⟩
    | _=>exact h.elim
  | halt x w' =>
    rw [hr] at h
    cases x<;>exact h
theorem qt0 (hnd:qsx ops=true) (hL:¬ LetsOut Q) {i:Nat} {K K':Act→World→Prop} {a:Act} {w:World} (hK:∀ a w,K a w→K' a w) (h:wpOp P ops Q i K a w):wpOpIn (Fence.wide.inRound l) n P ops Q i K' a w:=by
  unfold wpOp at h
  unfold wpOpIn
  cases ho:ops[i]? with
  | none=>rw [ho] at h;exact hK _ _ h
  | some o =>
    rw [ho] at h
    simp only at h ⊢
    split
    · rename_i hw
      rw [if_pos hw] at h
      rcases h with h | h
      · exact Oper.wpIn_mono hK (qsz (qsy hnd ho) h)
      · exact absurd h.2 hL
    · rename_i hw
      rw [if_neg hw] at h
      exact ⟨fun _ _=>trivial,hK _ _ h⟩
theorem qt1 (hnd:qsx ops=true) (hL:¬ LetsOut Q):∀ (fuel:Nat) (li:Array Bool) (a:Act) (w:World),wpAny P md ops Q fuel li a w→wpAnyIn (Fence.wide.inRound l) n P md ops Q fuel li a w:=by
  intro fuel
  induction fuel with
  | zero=>exact fun _ _ _ h=>h
  | succ fuel ih=>exact fun li a w h=>⟨h.1,fun i hi=>qt0 hnd hL (fun a w=>ih _ a w) (h.2 i hi)⟩
end
section
variable {P:Program} {C:World→Prop} {l n:Nat}
end
end RegC
end Go

namespace Go.Tx
open Go Go.RegC
def KT (V:Nat→Value→Prop) (a:Act):Prop:=∀ n v,V n v→a.tmps[n]?=some v
theorem qt3 {V:Nat→Value→Prop} {a:Act} {dst:Option Tmp} (hd:∀ n v,V n v→dst≠some n) (h:KT V a) (v:Value):KT V (a.put dst v):=fun n u hu=>by
  cases dst with
  | none=>exact h n u hu
  | some d =>
    have hne:d≠n:=fun he=>hd n u hu (by rw [he])
    show (a.tmps.setIfInBounds d v)[n]?=some u
    rw [Array.getElem?_setIfInBounds_ne hne];exact h n u hu
def QK (V:Nat→Value→Prop) (Q:Exit→Act→World→Prop) (e:Exit) (a:Act) (w:World):Prop:=Q e a w∧(e=.normal→KT V a)
section
variable {P:Program} {V:Nat→Value→Prop} {Q:Exit→Act→World→Prop} {ops:Array Oper}
theorem qt4 {o:Oper} {a:Act} {w:World} {K:Act→World→Prop} (hd:∀ n v,V n v→o.dst≠some n) (ht:KT V a) (h:o.wp P a w K Q):o.wp P a w (fun a w=>K a w∧KT V a) (QK V Q):=by
  unfold Oper.wp at *
  generalize (execOp a.eval o).run P w=r at *
  cases r with
  | ok n w' =>
    cases n<;>simp only [Oper.upon] at h ⊢
    case value v=>exact ⟨h,qt3 hd ht v⟩
    case skip=>exact ⟨h,qt3 hd ht _⟩
    case defer d=>exact ⟨h,qt3 (a:={ a with defers:=d :: a.defers }) hd ht _⟩
    case enter f args =>
      refine Calls.mono h fun e w'' he=>?_
      cases e with
      | returned v=>exact ⟨he,qt3 hd ht v⟩
      | panicked c=>exact ⟨he,fun h=>by cases h⟩
      | outgrown=>obtain ⟨a2,w2,h2⟩:=he;exact ⟨a2,w2,h2,fun h=>by cases h⟩
    case row row args=>exact Rows.mono h fun v w'' he=>⟨he,qt3 hd ht v⟩
  | halt x w' =>
    cases x<;>simp only [Oper.upon] at h ⊢
    exact ⟨h,fun h=>by cases h⟩
theorem qt5:∀ (l:List Oper),(∀ o∈l,∀ n v,V n v→o.dst≠some n)→∀ (a:Act) (w:World),KT V a→wpList P ops Q l a w→wpList P ops (QK V Q) l a w
  | [],_,a,w,ht,h=>⟨h,fun _=>ht⟩
  | o :: l, hd, a, w, ht, h => by
    have ih:=qt5 l fun o ho=>hd o (List.mem_cons_of_mem _ ho)
    have h0:=hd o (List.mem_cons_self ..)
    change (if Region.wanted o (yielded ops a.tmps) then _ else _)
    change (if Region.wanted o (yielded ops a.tmps) then _ else _) at h
    split
    · rename_i hw
      rw [if_pos hw] at h
      rcases h with h | h
      · exact .inl (Oper.wp_mono (fun a w hk=>ih a w hk.2 hk.1) (qt4 h0 ht h))
      · obtain ⟨a2, w2, h3⟩ := h.2
        exact .inr ⟨h.1,a2,w2,h3,fun h=>by cases h⟩
    · rename_i hw
      rw [if_neg hw] at h
      exact ih _ _ (qt3 h0 ht _) h
theorem qt6 {md:Region.Mode} (hd:∀ (i:Nat) (o:Oper),ops[i]?=some o→∀ n v,V n v→o.dst≠some n):∀ (f:Nat) (li:Array Bool) (a:Act) (w:World),KT V a→wpAny P md ops Q f li a w→wpAny P md ops (QK V Q) f li a w:=by
  intro f
  induction f with
  | zero=>intro li a w ht h;exact ⟨h.1,h.2,fun _=>ht⟩
  | succ f ih =>
    intro li a w ht h
    refine ⟨fun hr=>⟨h.1 hr,fun _=>ht⟩,fun i hi=>?_⟩
    have h2:=h.2 i hi
    unfold wpOp at h2 ⊢
    cases ho:ops[i]? with
    | none=>rw [ho] at h2;exact ih _ _ _ ht h2
    | some o =>
      rw [ho] at h2
      simp only at h2 ⊢
      split
      · rename_i hw
        rw [if_pos hw] at h2
        rcases h2 with h2 | h2
        · exact .inl (Oper.wp_mono (fun a w hk=>ih _ a w hk.2 hk.1) (qt4 (hd i o ho) ht h2))
        · obtain ⟨a2, w2, h3⟩ := h2.2
          exact .inr ⟨h2.1,a2,w2,h3,fun h=>by cases h⟩
      · rename_i hw
        rw [if_neg hw] at h2
        exact ih _ _ _ (qt3 (hd i o ho) ht _) h2
def dstB (ns:List Nat) (ops:Array Oper):Bool:=ops.toList.all fun o=>match o.dst with | some d=>!memB ns d | none=>true
theorem qt7 {ns:List Nat} (h:dstB ns ops=true) (hV:∀ n v,V n v→n∈ns) {o:Oper} (ho:o∈ops.toList):∀ n v,V n v→o.dst≠some n:=fun n v hn he=>by
  unfold dstB at h
  have h1:=List.all_eq_true.1 h o ho
  rw [he] at h1
  simp only at h1
  rw [q54.2 (hV n v hn)] at h1
  cases h1
theorem qt8 {l n:Nat} (hL:¬ LetsOut Q):∀ (L:List Oper),(∀ o∈L,∀ c,o.op ≠ .defer c)→∀ (a:Act) (w:World),wpList P ops Q L a w→wpListIn (Fence.wide.inRound l) n P ops Q L a w
  | [],_,a,w,h=>h
  | o :: L, hd, a, w, h => by
    have ih:=qt8 (l:=l) (n:=n) hL L fun o ho=>hd o (List.mem_cons_of_mem _ ho)
    change (if Region.wanted o (yielded ops a.tmps) then _ else _)
    change (if Region.wanted o (yielded ops a.tmps) then _ else _) at h
    split
    · rename_i hw
      rw [if_pos hw] at h
      rcases h with h | h
      · exact Oper.wpIn_mono (fun a w=>ih a w) (qsz (hd o (List.mem_cons_self ..)) h)
      · exact absurd h.2 hL
    · rename_i hw
      rw [if_neg hw] at h
      exact ⟨fun _ _=>trivial,ih _ _ h⟩
theorem qt9 {l n id:Nat} {draw:Bool} {a:Act} {w:World} (hm:P.follows .mixedOrders=true) (hL:¬ LetsOut Q) (hnd:qsx ops=true) (h:RW P ops draw Q a w):(Code.region id ops draw).wpIn (Fence.wide.inRound l) n P Q a w:=by
  cases draw with
  | true=>exact wpIn_region_any hm (qt1 hnd hL _ _ _ _ h)
  | false =>
    refine wpIn_region_list (qt8 hL _ (fun o ho=>?_) _ _ h)
    obtain ⟨i,hi⟩:=List.getElem?_of_mem ho
    exact qsy hnd (i:=i) (o:=o) (by rw [← hi,Array.getElem?_toList])
theorem qta {draw:Bool} {a:Act} {w:World} {ns:List Nat} (hV:∀ n v,V n v→n∈ns) (hd:dstB ns ops=true) (ht:KT V a) (h:RW P ops draw Q a w):RW P ops draw (QK V Q) a w:=by
  cases draw with
  | true=>exact qt6 (fun i o ho=>qt7 hd hV (List.mem_of_getElem? (i:=i) (by rw [Array.getElem?_toList];exact ho))) _ _ _ _ ht h
  | false=>exact qt5 _ (fun o ho=>qt7 hd hV ho) _ _ ht h
end
section
variable {P:Program} {T:Tys} {C:Orc} {N l:Nat} {V:Nat→Value→Prop} {w0:World} {φ0:Fz0} {Q:Exit→Act→World→Prop}
def RunI (l:Nat) (P:Program) (V:Nat→Value→Prop) (w0:World) (φ0:Fz0) (N:Nat) (c:Code) (s:St) (Q:Exit→Act→World→Prop):Prop:=∀ a w,SS w0 φ0 N s a w→KT V a→c.wpIn (Fence.wide.inRound l) 0 P Q a w
def CnI (V:Nat→Value→Prop) (w0:World) (φ0:Fz0) (N:Nat) (s:St) (Q:Exit→Act→World→Prop) (e:Exit):Prop:=∀ a w,SS w0 φ0 N s a w→KT V a→Q e a w
theorem qtb {c:Code} {s:St} (h:RunI l P V w0 φ0 N c s Q):CnI V w0 φ0 N s (Exit.then (c.wpIn (Fence.wide.inRound l) 0 P Q) Q) .normal:=h
theorem qtc {s:St} {i:Nat} (h:CnI V w0 φ0 N s Q .normal):CnI V w0 φ0 N s (Exit.inBlock i Q) .normal:=h
theorem qti {s:St} (h:CnI V w0 φ0 N s Q .normal):RunI l P V w0 φ0 N .skip s Q:=fun a w hs hv=>wpIn_skip (h a w hs hv)
theorem qtl {x y:Code} {s:St} (h:RunI l P V w0 φ0 N x s (Exit.then (y.wpIn (Fence.wide.inRound l) 0 P Q) Q)):RunI l P V w0 φ0 N (.seq x y) s Q:=fun a w hs hv=>wpIn_seq (h a w hs hv)
theorem qtm {c:Code} {s:St} {i:Nat} (h:RunI l P V w0 φ0 N c s (Exit.inBlock i Q)):RunI l P V w0 φ0 N (.block i c) s Q:=fun a w hs hv=>wpIn_block (h a w hs hv)
theorem qto {R:Type} {r:R} {v:Bool} {A B:Option R} {c:Operand} {x y:Code} {s:St} (hc:stev s c=.bool v) (h:(bif v then A else B)=some r) (ht:A=some r→RunI l P V w0 φ0 N x s Q) (hf:B=some r→RunI l P V w0 φ0 N y s Q):RunI l P V w0 φ0 N (.cond c x y) s Q:=fun a w hs hv=>by
  obtain ⟨η,h1,_⟩:=hs.sr
  have hx:=q4m (h1 0).tr c
  rw [show xev (q6m s.tm .lf) c=.bool v from hc] at hx
  have hcv:a.eval c=.bool v:=by
    generalize a.eval c=u at hx
    cases hx;rfl
  refine wpIn_cond hcv ?_
  cases v with
  | true=>exact ht h a w hs hv
  | false=>exact hf h a w hs hv
theorem qtp (hm:P.follows .mixedOrders=true) (hT:q1h P T) (hC:OrcOK P C) {ns:List Nat} (hV:∀ n v,V n v→n∈ns) {R Y:Type} {r:R} {rid:Nat} {ops:Array Oper} {draw:Bool} {keep:List (Nat×Kd)} {s:St} {t:Dt Y} {S:Y→St} {K:Y→Option R}
    (hd:dstB ns ops=true) (hnd:qsx ops=true) (hreg:treg T C N ops draw keep s some=t.eval fun y=>some (S y)) (h:t.eval K=some r) (hk:∀ y,K y=some r→CnI V w0 φ0 N (S y) Q .normal):RunI l P V w0 φ0 N (.region rid ops draw) s Q:=by
  obtain ⟨y,h1,h2⟩:=t.one h
  rw [h2] at hreg
  obtain ⟨s',h3,h4⟩:=q7i (D:=φ0.D) hm hT hC hreg
  injection h3 with h3;subst h3
  intro a w hs hv
  have h5:=h4 w0 φ0 a w (fun e a w=>e=.normal∧SS w0 φ0 N (S y) a w) rfl hs fun a' w' h=>⟨rfl,h⟩
  have h6:=qt9 (l:=l) (n:=0) (id:=rid) hm (by rintro ⟨a2,w2,h2⟩;cases h2.1.1) hnd (qta hV hd hv h5)
  refine wpIn_mono h6 fun e a' w' ⟨⟨he,h7⟩,h8⟩=>?_
  subst he
  exact hk y h1 a' w' h7 (h8 rfl)
end
structure OnlyB (b:Nat) (A B:World):Prop where
  size:B.heap.size=A.heap.size
  same:∀ k,k≠b→B.heap[k]?=A.heap[k]?
  os:B.os=A.os
  tape:B.tape=A.tape
  output:B.output=A.output
  drawn:B.drawn=A.drawn
theorem OnlyB.put (A:World) (b:Nat) (o:Obj):OnlyB b A (A.putObj b o):=⟨by rw [World.putObj_size],fun k hk=>World.putObj_heap_other hk,rfl,rfl,rfl,rfl⟩
theorem HR.only {M:Nat} {η:Emb} {H:LH} {A B:World} {b:Nat} (h:HR M η H A) (hb:OnlyB b A B) (hl:¬ LB H η b) (hf:η.fz b=none):HR M η H B where
  dom:=h.dom
  lt:=h.lt
  live k ob hk:=(h.live k ob hk).move (Emb.le_refl _) rfl (Nat.le_of_eq hb.size.symm) fun L hL=>hb.same _ fun he=>hl ⟨k,ob,L,hk,hL,he⟩
  inj:=h.inj
  fz k ob hk:=by rw [hb.same k fun he=>by rw [he,hf] at hk;cases hk];exact h.fz k ob hk
  sep:=h.sep
  ok:=h.ok
theorem Fr.only {w0:World} {φ0:Fz0} {H:LH} {η:Emb} {A B:World} {b:Nat} (h:Fr w0 φ0 H η A) (hb:OnlyB b A B) (h0:w0.heap.size≤b) (hk:∀ o,¬ φ0.K b o):Fr w0 φ0 H η B where
  size:=by rw [hb.size];exact h.size
  same k hlt:=(hb.same k (by omega)).trans (h.same k hlt)
  lb:=h.lb
  fz0:=h.fz0
  fzn:=h.fzn
  os:=hb.os.trans h.os
  tape:=hb.tape.trans h.tape
  output:=hb.output.trans h.output
  drawn:=by rw [hb.drawn];exact h.drawn
  kp k o ho:=by
    obtain ⟨h1,h2,h3⟩:=h.kp k o ho
    exact ⟨(hb.same k fun he=>hk o (by rw [← he];exact ho)).trans h1,h2,h3⟩
section
open Go.RowKit
variable {F:Fence} {n:Nat} {P:Program}
def SeqT {α:Type} (F:Fence) (n:Nat) (P:Program) (g:Nat) (lb:Array Value) (encs:α→Array Value) (b:Nat) (Kp:World→World→Prop) (xs:List α) (w:World):Prop :=
  ∀ (l:Nat) (J:(Nat→Prop)→List α→World→Prop) (W:World),Below w.heap.size w W→(∀ T s A B,J T s A→OnlyB b A B→J T s B) →
    (∀ T s A B,J T s A→Bel A B→J (fun k=>T k∨(A.heap.size≤k∧k<B.heap.size)) s B) →
    (∀ T pre x rest A,xs=pre++x :: rest→J T pre A→YieldAt F (n - 1) P l (encs x) A fun e B=>e=.returned (.bool true)∧J T (pre ++ [x]) B∧Kp A B∧∀ k,T k→B.heap[k]?=A.heap[k]?) →
    J (fun _=>False) [] W→CallsIn F n P g (#[.func (.yield l) #[] #[]] ++ lb) W fun e B=>(∃ v,e=.returned v)∧∃ T,J T xs B
theorem qtq {α:Type} {g:Operand} {ps:Array Tmp} {assign body:Code} {Q:Exit→Act→World→Prop} {a:Act} {w:World}
    (hro:F.round=none) (h1:1≤n) {gf:Nat} {lb:Array Value} (hg:a.eval g=.func (.func gf) #[] lb) (hFg:F.fn gf) (eg:∀ args w,(callFunc gf args).run P w=.ok (.enter gf args) w)
    {encs:α→Array Value} {kb:Nat} {Kp:World→World→Prop} {xs:List α} (hseq:SeqT F (n - 1) P gf lb encs kb Kp xs w) (hkb:kb<w.heap.size)
    (hKt:∀ {A B D:World},Kp A B→Kp B D→Kp A D) (hKb:∀ (W:World) (o:Obj),Kp W (W.putObj (w.heap.size+1) o)) (hps:∀ x,(encs x).size=ps.size)
    (I:(Nat→Prop)→List α→World→Prop) (hIC:∀ T s A B,I T s A→OnlyB kb A B→I T s B) (hIB:∀ T s A B,I T s A→Bel A B→I (fun k=>T k∨(A.heap.size≤k∧k<B.heap.size)) s B)
    (hIp:∀ T s (A:World) (o:Obj),I T s A→w.heap.size+1<A.heap.size→I T s (A.putObj (w.heap.size+1) o)) (hT:∀ T s A k,I T s A→T k→k≠w.heap.size+1)
    (h0:∀ r,I (fun _=>False) [] ((w.alloc (.deferred (some []))).alloc (.loop r)))
    (hround:∀ (l:Nat) (T:Nat→Prop) (pre:List α) (x:α) (rest:List α) (W:World) (o o':Obj),xs=pre++x :: rest→I T pre W→W.heap[w.heap.size+1]?=some o→W.heap[w.heap.size]?=some o' →
      assign.wpIn (F.inRound l) (n - 1 - 1) P (Exit.then (fun a1 W1=>W1.heap[w.heap.size+1]?=some o∧Kp W W1∧(∀ k,T k→W1.heap[k]?=W.heap[k]?)∧∀ o2,
        body.wpIn (F.inRound l) (n - 1 - 1) P (fun e _ W'=>e=.normal∧W'.heap[w.heap.size+1]?=some o2∧W'.heap[w.heap.size]?=some o'∧Kp (W1.putObj (w.heap.size+1) o2) W'∧(∀ k,T k→W'.heap[k]?=W1.heap[k]?)∧I T (pre ++ [x]) W') a1 (W1.putObj (w.heap.size+1) o2)) (fun _ _ _=>False))
        { tmps:=(ps.zip (encs x)).foldl (fun t (p,v)=>t.setIfInBounds p v) a.tmps,defers:=[] } W)
    (hdone:∀ (T:Nat→Prop) (W:World),I T xs W→W.heap[w.heap.size]?=some (.deferred (some []))→Q .normal { a with defers:={ target:=.collected w.heap.size,args:=#[] } :: a.defers } W) :
    (Code.rangeFunc g ps assign body).wpIn F n P Q a w:=by
  refine wpIn_rangeFunc ?_
  intro fn hfn
  rw [hro]
  obtain ⟨rc,hrc⟩:∃ rc:LoopState→Loop,rc=fun st=>{ state:=st,pending:=none,fn,tmps:=a.tmps,params:=ps,assign,body,defers:=w.heap.size }:=⟨_,rfl⟩
  obtain ⟨V,hV⟩:∃ V,(w.alloc (.deferred (some []))).alloc (.loop (rc .ready))=V:=⟨_,rfl⟩
  have vl:V.heap[w.heap.size+1]?=some (.loop (rc .ready)):=by
    have:=World.alloc_heap_new (w.alloc (.deferred (some []))) (.loop (rc .ready))
    rw [World.size_alloc] at this
    rw [← hV];exact this
  have vd:V.heap[w.heap.size]?=some (.deferred (some [])):=by
    rw [← hV];exact (Below.heap_alloc _ _ _ (by simp)).trans (World.alloc_heap_new w _)
  have vb:Below w.heap.size w V:=by rw [← hV];exact ((Below.refl _ w).alloc (Nat.le_refl _) _).alloc (by simp) _
  have vI:I (fun _=>False) [] V:=by rw [← hV];exact h0 _
  refine ⟨w.heap.size+1,[{ target:=.collected w.heap.size,args:=#[] }],V,{ target:=.fn (.func gf) lb,args:=#[.func (.yield (w.heap.size+1)) #[] #[]] },V,gf,
    #[.func (.yield (w.heap.size+1)) #[] #[]] ++ lb,V,?_,?_,?_,?_,fun _=>h1,?_⟩
  · rw [← hV,hrc];exact run_enterLoop_outer _ _ _ _ _
  · simp only [resolve, hg]
    simp [go_sem]
  · intro f hf;simp [Target.leads] at hf;rw [← hf];exact hFg
  · simp [invoke,go_sem,eg]
  · refine (hseq (w.heap.size+1) (fun T pre W=>I T pre W∧W.heap[w.heap.size+1]?=some (.loop (rc .ready))∧W.heap[w.heap.size]?=some (.deferred (some []))) V vb
      (fun T s A B h hAB=>⟨hIC T s A B h.1 hAB,(hAB.same _ (by omega)).trans h.2.1,(hAB.same _ (by omega)).trans h.2.2⟩)
      (fun T s A B h hAB=>⟨hIB T s A B h.1 hAB,(hAB.block _ (Array.getElem?_eq_some_iff.1 h.2.1).1).trans h.2.1,(hAB.block _ (Array.getElem?_eq_some_iff.1 h.2.2).1).trans h.2.2⟩) ?_ ⟨vI,vl,vd⟩).mono ?_
    · rintro T pre x rest W hxs ⟨hi, hl, hk⟩
      have hlt:w.heap.size+1<W.heap.size:=(Array.getElem?_eq_some_iff.1 hl).1
      have hy:=run_yield (P:=P) (args:=encs x) hl (by rw [hrc];exact hps x)
      rw [hrc] at hy
      refine ⟨fn,_,assign,body,hy,roundIn_of_wpIn hfn (wpIn_mono (hround _ T pre x rest W _ _ hxs hi hl hk) ?_)⟩
      intro e a1 W1 hK
      have hn:e=.normal:=by cases e<;>first | rfl | exact (show False from hK).elim
      subst hn
      obtain ⟨hl1,hK1,hT1,hb⟩:=hK
      refine ⟨_,run_beginRound hl1 (by rw [hrc]),?_⟩
      refine wpIn_mono (hb _) ?_
      rintro e a3 Z ⟨rfl,zl,zd,zK,zT,zI⟩
      have hr:=run_endRound (P:=P) none zl
      rw [hrc] at hr
      have zlt:w.heap.size+1<Z.heap.size:=(Array.getElem?_eq_some_iff.1 zl).1
      refine ⟨_,_,hr,rfl,⟨hIp _ _ _ _ zI zlt,?_,?_⟩,hKt (hKt (hKt hK1 (hKb _ _)) zK) (hKb _ _),fun k hk=>(World.putObj_heap_other (hT _ _ _ k hi hk)).trans ((zT k hk).trans (hT1 k hk))⟩
      · rw [hrc];exact World.putObj_heap_same zlt
      · exact (World.putObj_heap_other (by omega)).trans zd
    · rintro e Z ⟨⟨v, rfl⟩, T, zI, zl, zd⟩
      have he:=run_endLoop (P:=P) zl (by rw [hrc];simp)
      rw [hrc] at he
      exact ⟨none,_,he,hdone T _ (hIp _ _ _ _ zI (Array.getElem?_eq_some_iff.1 zl).1) ((World.putObj_heap_other (by omega)).trans zd)⟩
end
end Go.Tx

namespace Go.Tx
open Go
def qtr {α X:Type} (step:α→X→Option X):List α→X→Option X
  | [],x=>some x
  | a :: l,x=>match step a x with | some y=>qtr step l y | none=>none
theorem qts {α X:Type} (step:α→X→Option X):∀ (l:List α) (a:α) (m:List α) (x z:X),qtr step (l++a :: m) x=some z→∃ y y',qtr step l x=some y∧step a y=some y'∧qtr step (l ++ [a]) x=some y'
  | [], a, m, x, z, h => by
    rw [List.nil_append,qtr] at h
    cases hs:step a x with
    | none=>rw [hs] at h;cases h
    | some y'=>exact ⟨x,y',rfl,hs,by rw [List.nil_append,qtr,hs];rfl⟩
  | b :: l, a, m, x, z, h => by
    rw [List.cons_append,qtr] at h
    cases hs:step b x with
    | none=>rw [hs] at h;cases h
    | some x1 =>
      rw [hs] at h
      obtain ⟨y,y',h1,h2,h3⟩:=qts step l a m x1 z h
      exact ⟨y,y',by rw [qtr,hs];exact h1,h2,by rw [List.cons_append,qtr,hs];exact h3⟩
def SX (w0:World) (φ0:Fz0) (tm:List (Nat×LV)) (ob:List Ob) (a:Act) (kb r:Nat) (T:Nat→Prop) (W:World):Prop :=
  ∃ η,(∀ M,HR M η (q6o ob) W)∧(∀ n l,(n,l)∈tm→∃ v,a.tmps[n]?=some v∧VR η l v)∧Fr w0 φ0 (q6o ob) η W∧(∀ k,k=kb∨k=r∨k=r+1∨T k→¬ LB (q6o ob) η k∧η.fz k=none)∧r+1<W.heap.size∧∀ k,T k→r+1<k∧k<W.heap.size
theorem SX.only {w0:World} {φ0:Fz0} {tm:List (Nat×LV)} {ob:List Ob} {a:Act} {kb r b:Nat} {T:Nat→Prop} {A B:World} (h:SX w0 φ0 tm ob a kb r T A) (hb:OnlyB b A B) (hbb:b=kb∨b=r∨b=r+1) (h0:w0.heap.size≤b) (hk:∀ o,¬ φ0.K b o):SX w0 φ0 tm ob a kb r T B:=by
  obtain ⟨η,h1,h2,h3,h4,h5,h6⟩:=h
  obtain ⟨g1,g2⟩:=h4 b (hbb.imp id (Or.imp id .inl))
  exact ⟨η,fun M=>(h1 M).only hb g1 g2,h2,h3.only hb h0 hk,h4,by rw [hb.size];exact h5,fun k hk=>by rw [hb.size];exact h6 k hk⟩
theorem HR.grow {M:Nat} {η:Emb} {H:LH} {A B:World} (h:HR M η H A) (hb:Bel A B):HR M η H B where
  dom:=h.dom
  lt:=h.lt
  live k ob hk:=(h.live k ob hk).move (Emb.le_refl _) rfl hb.size fun L hL=>hb.block _ ((h.live k ob hk).lt hL)
  inj:=h.inj
  fz k ob hk:=by rw [hb.block k (Array.getElem?_eq_some_iff.1 (h.fz k ob hk)).1];exact h.fz k ob hk
  sep:=h.sep
  ok:=h.ok
theorem Fr.grow {w0:World} {φ0:Fz0} {H:LH} {η:Emb} {A B:World} (h:Fr w0 φ0 H η A) (hb:Bel A B):Fr w0 φ0 H η B where
  size:=Nat.le_trans h.size hb.size
  same k hlt:=(hb.block k (Nat.lt_of_lt_of_le hlt h.size)).trans (h.same k hlt)
  lb:=h.lb
  fz0:=h.fz0
  fzn:=h.fzn
  os:=hb.os.trans h.os
  tape:=hb.tape.trans h.tape
  output:=hb.output.trans h.output
  drawn:=Nat.le_trans h.drawn hb.mono
  kp k o ho:=by
    obtain ⟨h1,h2,h3⟩:=h.kp k o ho
    exact ⟨(hb.block k (Array.getElem?_eq_some_iff.1 h1).1).trans h1,h2,h3⟩
theorem SX.grow {w0:World} {φ0:Fz0} {tm:List (Nat×LV)} {ob:List Ob} {a:Act} {kb r:Nat} {T:Nat→Prop} {A B:World} (h:SX w0 φ0 tm ob a kb r T A) (hb:Bel A B):SX w0 φ0 tm ob a kb r (fun k=>T k∨(A.heap.size≤k∧k<B.heap.size)) B:=by
  obtain ⟨η,h1,h2,h3,h4,h5,h6⟩:=h
  refine ⟨η,fun M=>(h1 M).grow hb,h2,h3.grow hb,fun k hk=>?_,Nat.lt_of_lt_of_le h5 hb.size,fun k hk=>?_⟩
  · rcases hk with hk | hk | hk | hk | ⟨hk, _⟩
    · exact h4 k (.inl hk)
    · exact h4 k (.inr (.inl hk))
    · exact h4 k (.inr (.inr (.inl hk)))
    · exact h4 k (.inr (.inr (.inr hk)))
    · refine ⟨fun ⟨j, ob', L, hj, hL, he⟩ => ?_, ?_⟩
      · have:=((h1 0).live j ob' hj).lt hL;omega
      · cases hf : η.fz k with
        | none=>rfl
        | some o=>have:=(Array.getElem?_eq_some_iff.1 ((h1 0).fz k o hf)).1;omega
  · rcases hk with hk | ⟨hk, hk2⟩
    · obtain ⟨g1, g2⟩ := h6 k hk
      exact ⟨g1,Nat.lt_of_lt_of_le g2 hb.size⟩
    · exact ⟨by omega,hk2⟩
theorem qtt {F:Fence} {P:Program} {c:Code} {Q:Exit→Act→World→Prop} {a:Act} {w:World} (hd:F.depth=none) {n m:Nat} (h:c.wpIn F n P Q a w):c.wpIn F m P Q a w:=fun b k cs hro hb _=>h b k cs hro hb fun d hd'=>by rw [hd] at hd';cases hd'
section
variable {P:Program} {N:Nat} {w0:World} {φ0:Fz0} {Q:Exit→Act→World→Prop}
def qtu {α X Z:Type} (A:α→X→Option Z) (B:Z→Option X) (x:α) (y:X):Option X:=Option.bind (A x y) B
theorem qtv {α X Z:Type} {g:Operand} {ps:Array Tmp} {assign body:Code} {a:Act} {w:World} {gf kb:Nat} {lb:Array Value} {encs:α→Array Value} {xs:List α} {A:α→X→Option Z} {B:Z→Option X} {S1:Z→St} {x0 z:X} {tmE:X→List (Nat×LV)} {keys:List Nat} {obs:X→List Ob} {xp:α→List (Nat×LV)} {ψ:Nat→Option Obj}
    (hkeys:∀ y n l,(n,l)∈tmE y→n∈keys) (hg:a.eval g=.func (.func gf) #[] lb) (eg:∀ args w,(callFunc gf args).run P w=.ok (.enter gf args) w)
    (hseq:SeqT Fence.wide 3 P gf lb encs kb (fun A B=>B.heap[kb]?=A.heap[kb]?∧∀ k ob,ψ k=some ob→A.heap[k]?=some ob→B.heap[k]?=some ob) xs w) (hkb:kb<w.heap.size) (hkb0:w0.heap.size≤kb) (hkK:∀ o,¬ φ0.K kb o) (hps:∀ x,(encs x).size=ps.size)
    (hD:φ0.D=a.defers)
    (hE:∃ η,(∀ M,HR M η (q6o (obs x0)) w)∧(∀ n l,(n,l)∈tmE x0→∃ v,a.tmps[n]?=some v∧VR η l v)∧Fr w0 φ0 (q6o (obs x0)) η w∧¬ LB (q6o (obs x0)) η kb∧η.fz kb=none∧∀ k ob,ψ k=some ob→η.fz k=some ob)
    (hxp:∀ (x:α) (t:Array Value),N≤t.size→N≤((ps.zip (encs x)).foldl (fun t (p,v)=>t.setIfInBounds p v) t).size∧(∀ n l,(n,l)∈xp x→∃ v,((ps.zip (encs x)).foldl (fun t (p,v)=>t.setIfInBounds p v) t)[n]?=some v∧∀ η,VR η l v)∧∀ n,n∈keys→((ps.zip (encs x)).foldl (fun t (p,v)=>t.setIfInBounds p v) t)[n]?=t[n]?)
    (hassign:∀ (l:Nat) (V:Nat→Value→Prop) (φ':Fz0) (Q:Exit→Act→World→Prop) x y z,A x y=some z→φ'.D=[]→(∀ n v,V n v→n∈keys)→CnI V w0 φ' N (S1 z) Q .normal→RunI l P V w0 φ' N assign ⟨xp x++tmE y,obs y⟩ Q)
    (hbody:∀ (l:Nat) (V:Nat→Value→Prop) (φ':Fz0) (Q:Exit→Act→World→Prop) z y',B z=some y'→φ'.D=[]→(∀ n v,V n v→n∈keys)→CnI V w0 φ' N ⟨tmE y',obs y'⟩ Q .normal→RunI l P V w0 φ' N body (S1 z) Q)
    (hz:qtr (qtu A B) xs x0=some z)
    (hN:N≤a.tmps.size) (hkv:∀ n,n∈keys→∃ v,a.tmps[n]?=some v)
    (hk:∀ a' W,SS w0 ⟨φ0.φ,fun k o=>φ0.K k o∨(k=w.heap.size∧o=.deferred (some [])),⟨.collected w.heap.size,#[]⟩ :: φ0.D⟩ N ⟨tmE z,obs z⟩ a' W→Q .normal a' W) :
    (Code.rangeFunc g ps assign body).wp P Q a w:=by
  obtain ⟨η0,e1,e2,e3,e4,e5,e6⟩:=hE
  have e7:Fr w0 ⟨η0.fz,φ0.K,φ0.D⟩ (q6o (obs x0)) η0 w:=⟨e3.size,e3.same,e3.lb,fun _ _ h=>h,fun _ _ h=>.inl h,e3.os,e3.tape,e3.output,e3.drawn,e3.kp⟩
  have hKlt:∀ k o,φ0.K k o→k<w.heap.size:=fun k o h=>(Array.getElem?_eq_some_iff.1 (e3.kp k o h).1).1
  have hsz:=e3.size
  have hLlt:∀ k,LB (q6o (obs x0)) η0 k→k<w.heap.size:=fun k ⟨b,ob,L,h1,h2,h3⟩=>by rw [← h3];exact ((e1 0).live b ob h1).lt h2
  have hflt:∀ k ob,η0.fz k=some ob→k<w.heap.size:=fun k ob h=>(Array.getElem?_eq_some_iff.1 ((e1 0).fz k ob h)).1
  have hnone:∀ k,w.heap.size≤k→η0.fz k=none:=fun k hk=>by
    cases h:η0.fz k with
    | none=>rfl
    | some ob=>have:=hflt k ob h;omega
  refine wpIn_wide.1 (qtq (F:=Fence.wide) (n:=4) rfl (by decide) hg trivial eg hseq hkb (fun h k=>⟨k.1.trans h.1,fun j ob hj hA=>k.2 j ob hj (h.2 j ob hj hA)⟩) (fun W o=>⟨World.putObj_heap_other (by omega),fun j ob hj hA=>(World.putObj_heap_other (by have:=hflt j ob (e6 j ob hj);omega)).trans hA⟩) hps
    (fun T pre W=>∃ y,qtr (qtu A B) pre x0=some y∧SX w0 ⟨η0.fz,φ0.K,φ0.D⟩ (tmE y) (obs y) a kb w.heap.size T W)
    (fun T s A B ⟨y,h1,h2⟩ h=>⟨y,h1,h2.only h (.inl rfl) hkb0 hkK⟩) (fun T s A B ⟨y,h1,h2⟩ h=>⟨y,h1,h2.grow h⟩)
    (fun T s A o ⟨y,h1,h2⟩ hl=>⟨y,h1,h2.only (OnlyB.put A _ o) (.inr (.inr rfl)) (by omega) fun o h=>by have:=hKlt _ _ h;omega⟩)
    (fun T s A k ⟨y,h1,η,_,_,_,_,_,h6⟩ hk=>by have:=(h6 k hk).1;omega)
    ?_ ?_ ?_)
  · intro r
    refine ⟨x0,rfl,η0,fun M=>?_,e2,?_,fun k hk=>?_,by simp,fun k hk=>hk.elim⟩
    · exact (e1 M).grow (((Bel.refl w).alloc _).alloc _)
    · exact e7.grow (((Bel.refl w).alloc _).alloc _)
    · rcases hk with rfl | rfl | rfl | hk
      · exact ⟨e4,e5⟩
      · exact ⟨fun h=>by have:=hLlt _ h;omega,hnone _ (Nat.le_refl _)⟩
      · exact ⟨fun h=>by have:=hLlt _ h;omega,hnone _ (by omega)⟩
      · exact hk.elim
  · rintro l T pre x rest W o o' hxs ⟨y, hy, η, f1, f2, f3, f4, f5, f6⟩ hl hd
    obtain ⟨y1,y',g1,g2,g3⟩:=qts (qtu A B) pre x rest x0 z (by rw [← hxs];exact hz)
    rw [hy] at g1;injection g1 with g1;subst g1
    obtain ⟨z1,hA,hB⟩:=Option.bind_eq_some_iff.1 g2
    have hkW:kb<W.heap.size:=by omega
    obtain ⟨q,hq⟩:∃ q,W.heap[kb]?=some q:=⟨_,Array.getElem?_eq_getElem hkW⟩
    obtain ⟨c1,c2,c3⟩:=hxp x a.tmps hN
    let φA:Obj→Fz0:=fun o=>⟨η0.fz,fun k u=>φ0.K k u∨(k=kb∧u=q)∨(k=w.heap.size∧u=o')∨(k=w.heap.size+1∧u=o)∨(T k∧W.heap[k]?=some u),[]⟩
    have hSS:SS w0 (φA o) N ⟨xp x++tmE y,obs y⟩ { tmps:=(ps.zip (encs x)).foldl (fun t (p,v)=>t.setIfInBounds p v) a.tmps,defers:=[] } W:=by
      refine ⟨⟨η,f1,fun n lv hn=>?_,⟨f3.size,f3.same,f3.lb,f3.fz0,f3.fzn,f3.os,f3.tape,f3.output,f3.drawn,fun k u hu=>?_⟩⟩,c1,rfl⟩
      · rcases List.mem_append.1 hn with hn | hn
        · obtain ⟨v, v1, v2⟩ := c2 n lv hn
          exact ⟨v,v1,v2 η⟩
        · obtain ⟨u, u1, u2⟩ := f2 n lv hn
          exact ⟨u,(c3 n (hkeys y n lv hn)).trans u1,u2⟩
      · rcases hu with hu | ⟨rfl, rfl⟩ | ⟨rfl, rfl⟩ | ⟨rfl, rfl⟩ | ⟨hu, hu2⟩
        · exact f3.kp k u hu
        · exact ⟨hq,f4 k (.inl rfl)⟩
        · exact ⟨hd,f4 _ (.inr (.inl rfl))⟩
        · exact ⟨hl,f4 _ (.inr (.inr (.inl rfl)))⟩
        · exact ⟨hu2,f4 k (.inr (.inr (.inr hu)))⟩
    have hKT:KT (fun n v=>n∈keys∧a.tmps[n]?=some v) { tmps:=(ps.zip (encs x)).foldl (fun t (p,v)=>t.setIfInBounds p v) a.tmps,defers:=[] }:=by
      rintro n v ⟨hn,hv⟩
      exact (c3 n hn).trans hv
    refine qtt rfl (wpIn_mono (hassign l (fun n v=>n∈keys∧a.tmps[n]?=some v) (φA o) (Exit.then (fun a1 W1=>SS w0 (φA o) N (S1 z1) a1 W1∧KT (fun n v=>n∈keys∧a.tmps[n]?=some v) a1) (fun _ _ _=>False)) x y z1 hA rfl (fun n v h=>h.1) (fun a' W' hs hv=>⟨hs,hv⟩) _ W hSS hKT) ?_)
    intro e a1 W1 hK
    have hn:e=.normal:=by cases e<;>first | rfl | exact (show False from hK).elim
    subst hn
    obtain ⟨hs1,hk1⟩:=hK
    obtain ⟨⟨η1,r1,r2,r3⟩,r4,r5⟩:=hs1
    obtain ⟨k1,k2,k3⟩:=r3.kp kb q (.inr (.inl ⟨rfl,rfl⟩))
    obtain ⟨k4,k5,k6⟩:=r3.kp w.heap.size o' (.inr (.inr (.inl ⟨rfl,rfl⟩)))
    obtain ⟨k7,k8,k9⟩:=r3.kp (w.heap.size+1) o (.inr (.inr (.inr (.inl ⟨rfl,rfl⟩))))
    have kT:∀ k,T k→W1.heap[k]?=W.heap[k]?∧¬ LB (q6o (S1 z1).ob) η1 k∧η1.fz k=none:=fun k hk=>by
      obtain ⟨u,hu⟩:∃ u,W.heap[k]?=some u:=⟨_,Array.getElem?_eq_getElem (f6 k hk).2⟩
      obtain ⟨s1,s2,s3⟩:=r3.kp k u (.inr (.inr (.inr (.inr ⟨hk,hu⟩))))
      exact ⟨s1.trans hu.symm,s2,s3⟩
    refine ⟨k7,⟨k1.trans hq.symm,fun k ob hψ _=>(r1 0).fz k ob (r3.fz0 k ob (e6 k ob hψ))⟩,fun k hk=>(kT k hk).1,fun o2=>?_⟩
    have hlt1:w.heap.size+1<W1.heap.size:=(Array.getElem?_eq_some_iff.1 k7).1
    have hob:=OnlyB.put W1 (w.heap.size+1) o2
    have hSS2:SS w0 (φA o2) N (S1 z1) a1 (W1.putObj (w.heap.size+1) o2):=by
      refine ⟨⟨η1,fun M=>(r1 M).only hob k8 k9,r2,⟨by rw [hob.size];exact r3.size,fun k hk=>(hob.same k (by omega)).trans (r3.same k hk),r3.lb,r3.fz0,r3.fzn,hob.os.trans r3.os,hob.tape.trans r3.tape,hob.output.trans r3.output,by rw [hob.drawn];exact r3.drawn,fun k u hu=>?_⟩⟩,r4,r5⟩
      rcases hu with hu | ⟨rfl,rfl⟩ | ⟨rfl,rfl⟩ | ⟨rfl,rfl⟩ | ⟨hu,hu2⟩
      · obtain ⟨s1, s2, s3⟩ := r3.kp k u (.inl hu)
        exact ⟨(hob.same k (by have:=hKlt _ _ hu;omega)).trans s1,s2,s3⟩
      · exact ⟨(hob.same k (by omega)).trans k1,k2,k3⟩
      · exact ⟨(hob.same _ (by omega)).trans k4,k5,k6⟩
      · exact ⟨World.putObj_heap_same hlt1,k8,k9⟩
      · obtain ⟨s1, s2, s3⟩ := kT k hu
        exact ⟨(hob.same k (by have:=(f6 k hu).1;omega)).trans (s1.trans hu2),s2,s3⟩
    refine qtt rfl (hbody l (fun n v=>n∈keys∧a.tmps[n]?=some v) (φA o2) _ z1 y' hB rfl (fun n v h=>h.1) (fun a' W' hs hv=>?_) a1 _ hSS2 hk1)
    obtain ⟨⟨η',t1,t2,t3⟩,_,_⟩:=hs
    obtain ⟨m1,m2,m3⟩:=t3.kp kb q (.inr (.inl ⟨rfl,rfl⟩))
    obtain ⟨m4,m5,m6⟩:=t3.kp w.heap.size o' (.inr (.inr (.inl ⟨rfl,rfl⟩)))
    obtain ⟨m7,m8,m9⟩:=t3.kp (w.heap.size+1) o2 (.inr (.inr (.inr (.inl ⟨rfl,rfl⟩))))
    have mT:∀ k,T k→W'.heap[k]?=W1.heap[k]?∧¬ LB (q6o (obs y')) η' k∧η'.fz k=none:=fun k hk=>by
      obtain ⟨u,hu⟩:∃ u,W.heap[k]?=some u:=⟨_,Array.getElem?_eq_getElem (f6 k hk).2⟩
      obtain ⟨s1,s2,s3⟩:=t3.kp k u (.inr (.inr (.inr (.inr ⟨hk,hu⟩))))
      exact ⟨s1.trans (hu.symm.trans (kT k hk).1.symm),s2,s3⟩
    refine ⟨rfl,m7,m4,⟨m1.trans ((hob.same kb (by omega)).trans k1).symm,fun k ob hψ _=>(t1 0).fz k ob (t3.fz0 k ob (e6 k ob hψ))⟩,fun k hk=>(mT k hk).1,y',g3,η',t1,fun n lv hn=>?_,⟨t3.size,t3.same,t3.lb,t3.fz0,t3.fzn,t3.os,t3.tape,t3.output,t3.drawn,fun k u hu=>t3.kp k u (.inl hu)⟩,fun k hk=>?_,(Array.getElem?_eq_some_iff.1 m7).1,fun k hk=>⟨(f6 k hk).1,by
      obtain ⟨u,hu⟩:∃ u,W.heap[k]?=some u:=⟨_,Array.getElem?_eq_getElem (f6 k hk).2⟩
      exact (Array.getElem?_eq_some_iff.1 ((mT k hk).1.trans ((kT k hk).1.trans hu))).1⟩⟩
    · obtain ⟨v, v1, v2⟩ := t2 n lv hn
      have hkn:=hkeys y' n lv hn
      obtain ⟨u,u1⟩:=hkv n hkn
      have:=hv n u ⟨hkn,u1⟩
      rw [v1] at this;injection this with this;subst this
      exact ⟨v,u1,v2⟩
    · rcases hk with rfl | rfl | rfl | hk
      · exact ⟨m2,m3⟩
      · exact ⟨m5,m6⟩
      · exact ⟨m8,m9⟩
      · exact (mT k hk).2
  · rintro T W ⟨y, hy, η, f1, f2, f3, f4, f5, f6⟩ hd
    rw [hz] at hy;injection hy with hy;subst hy
    refine hk _ W ⟨⟨η,f1,f2,⟨f3.size,f3.same,f3.lb,fun k ob h=>f3.fz0 k ob (e3.fz0 k ob h),fun k ob h=>(f3.fzn k ob h).elim (e3.fzn k ob) .inr,f3.os,f3.tape,f3.output,f3.drawn,fun k o h=>?_⟩⟩,hN,by rw [hD]⟩
    rcases h with h | ⟨rfl,rfl⟩
    · exact f3.kp k o h
    · obtain ⟨h1, h2⟩ := f4 w.heap.size (.inr (.inl rfl))
      exact ⟨hd,h1,h2⟩
def qtw (P:Program) {α:Type} (gf:Nat) (cs0:List LV) (encs:α→Array Value) (xs:List α):Prop :=
  ∀ (w:World) (η:Emb) (L:Loc),At η w cs0 L→(∀ k ob,η.fz k=some ob→w.heap[k]?=some ob)→SeqT Fence.wide 3 P gf #[.pointer (some ⟨L.block,L.base+0,none⟩)] encs L.block (fun A B=>B.heap[L.block]?=A.heap[L.block]?∧∀ k ob,η.fz k=some ob→A.heap[k]?=some ob→B.heap[k]?=some ob) xs w
def qtx (w0:World) (φ0 φ':Fz0):Prop:=∃ d,w0.heap.size≤d∧φ'=⟨φ0.φ,fun k o=>φ0.K k o∨(k=d∧o=.deferred (some [])),⟨.collected d,#[]⟩ :: φ0.D⟩
theorem qty {α X Z:Type} {g:Operand} {ps:Array Tmp} {assign body:Code} {gf b0:Nat} {cs0:List LV} {encs:α→Array Value} {xs:List α} {A:α→X→Option Z} {B:Z→Option X} {S1:Z→St} {x0 z:X} {tm:List (Nat×LV)} {tmE:X→List (Nat×LV)} {keys:List Nat} {ob:List Ob} {obs:X→List Ob} {xp:α→List (Nat×LV)} {ks:List Nat}
    (hkeys:∀ y n l,(n,l)∈tmE y→n∈keys) (hkeys0:keys.all (fun n=>(tmE x0).any fun p=>Nat.beq n p.1)=true) (hgx:stev ⟨tm,ob⟩ g=.fn gf [.ptr b0 0]) (hob:ob[b0]?=some (.cells cs0)) (hnum:tnum (qcu ks tm) (q6o ob) some=some ⟨tmE x0,obs x0⟩)
    (hb0:memB (q5c (q6o ob) 1000 ((qcu ks tm).flatMap fun p=>q5a p.2) []) b0=false)
    (eg:∀ args w,(callFunc gf args).run P w=.ok (.enter gf args) w) (hit:qtw P gf cs0 encs xs) (hps:∀ x,(encs x).size=ps.size)
    (hxp:∀ (x:α) (t:Array Value),N≤t.size→N≤((ps.zip (encs x)).foldl (fun t (p,v)=>t.setIfInBounds p v) t).size∧(∀ n l,(n,l)∈xp x→∃ v,((ps.zip (encs x)).foldl (fun t (p,v)=>t.setIfInBounds p v) t)[n]?=some v∧∀ η,VR η l v)∧∀ n,n∈keys→((ps.zip (encs x)).foldl (fun t (p,v)=>t.setIfInBounds p v) t)[n]?=t[n]?)
    (hassign:∀ (l:Nat) (V:Nat→Value→Prop) (φ':Fz0) (Q:Exit→Act→World→Prop) x y z,A x y=some z→φ'.D=[]→(∀ n v,V n v→n∈keys)→CnI V w0 φ' N (S1 z) Q .normal→RunI l P V w0 φ' N assign ⟨xp x++tmE y,obs y⟩ Q)
    (hbody:∀ (l:Nat) (V:Nat→Value→Prop) (φ':Fz0) (Q:Exit→Act→World→Prop) z y',B z=some y'→φ'.D=[]→(∀ n v,V n v→n∈keys)→CnI V w0 φ' N ⟨tmE y',obs y'⟩ Q .normal→RunI l P V w0 φ' N body (S1 z) Q)
    (hz:qtr (qtu A B) xs x0=some z)
    (hk:∀ φ',qtx w0 φ0 φ'→Cn w0 φ' N ⟨tmE z,obs z⟩ Q .normal):Run P w0 φ0 N (.rangeFunc g ps assign body) ⟨tm,ob⟩ Q:=by
  intro a w hs
  have hs0:=hs
  obtain ⟨⟨η,h1,h2,h3⟩,h4,h5⟩:=hs
  have hv:VR η (.fn gf [.ptr b0 0]) (a.eval g):=by
    have hx:=q4m (η:=η) (t:=q6m tm .lf) (a:=a) (fun n l hl=>by
      rcases q6p tm .lf n l hl with h6 | h6
      · exact h2 n l h6
      · rw [Tr.get_lf] at h6;cases h6) g
    rwa [show xev (q6m tm .lf) g=.fn gf [.ptr b0 0] from hgx] at hx
  generalize hge:a.eval g=gv at hv
  cases hv with
  | fn hl hh =>
    obtain ⟨v,rfl,hp⟩:=vrs1 ⟨hl,hh⟩
    cases hp with
    | ptr hL =>
      rename_i L
      have hget:(q6o ob).get b0=some (.cells cs0):=by rw [q6r];exact hob
      have hat:=((h1 0).live b0 _ hget).at hL
      have hlb:LB (q6o ob) η L.block:=⟨b0,_,L,hget,hL,rfl⟩
      unfold tnum at hnum
      generalize hρ:q5c (q6o ob) 1000 ((qcu ks tm).flatMap fun p=>q5a p.2) []=ρ at hnum hb0
      simp only at hnum
      rw [Bool.cond_eq_ite] at hnum
      split at hnum
      · rename_i hn
        split at hnum
        · rename_i tm' obs' g1 g2
          injection hnum with hnum
          injection hnum with q1 q2
          subst q1;subst q2
          obtain ⟨_,e2⟩:=q7a ρ g2
          have hE2:∀ n l',(n,l')∈tmE x0→∃ v,a.tmps[n]?=some v∧VR (η.sub ρ) l' v:=fun n l' hl'=>by
            obtain ⟨l,m1,m2⟩:=q7c _ g1 n l' hl'
            obtain ⟨u,u1,u2⟩:=h2 n l (qcv ks tm _ m1)
            exact ⟨u,u1,q71 ρ m2 u2⟩
          refine qtv (ψ:=η.fz) hkeys hge eg (hit w η L hat (h1 0).fz) hat.lt (h3.lb _ hlb) (fun o ho=>(h3.kp _ o ho).2.1 hlb) hps h5.symm
            ⟨η.sub ρ,q7f hn g2 (h1 0),hE2,q7g g2 h3,fun ⟨j,ob',L',hj,hL',hk'⟩=>?_,(h1 0).sep _ hlb,fun k ob h=>h⟩ hxp hassign hbody hz h4 (fun n hn=>by
              have:=List.all_eq_true.1 hkeys0 n hn
              obtain ⟨⟨n',l⟩,m1,m2⟩:=List.any_eq_true.1 this
              obtain rfl:=Nat.eq_of_beq_eq_true m2
              obtain ⟨v,v1,_⟩:=hE2 _ l m1
              exact ⟨v,v1⟩) (fun a' W hss=>hk _ ⟨_,h3.size,rfl⟩ a' W hss)
          · rw [q6r] at hj
            obtain ⟨n,ob1,m1,m2,m3⟩:=e2 j ob' hj
            have hLn:η.loc n=some L':=by unfold Emb.sub at hL';simpa only [m1,Option.bind_some] using hL'
            have:n=b0:=(h1 0).inj n b0 _ _ _ _ m2 hget hLn hL hk'
            subst this
            rw [q54.2 (List.mem_of_getElem? m1)] at hb0
            cases hb0
        · cases hnum
      · cases hnum
def EndM (T:Tys) (w0:World) (φ0:Fz0) (N:Nat) (rs:List ResultVar) (out:LV×List Ob) (Q:Exit→Act→World→Prop):Prop :=
  End T w0 φ0 N rs out Q∧∀ φ',qtx w0 φ0 φ'→End T w0 φ' N rs out Q
theorem qtz {T : Tys} (hT : q1h P T) {S : Spec} {fn : Func} {c : Code} (hfn : P.funcs[S.g]? = some fn) (hc : fn.body = some c) (hname : ¬ fn.name = "runtime.NumGoroutine")
    (h:∀ x r,S.F x=some r→∀ w0 φ0 Q,EndM T w0 φ0 fn.ntmps fn.results.toList (S.enc r) Q→Run P w0 φ0 fn.ntmps c ⟨nums 0 (q89 S.τs x),[]⟩ Q):COK P S:=by
  refine ⟨fun x r hx w φ vs hφ hv=>?_,fn,c,hfn,hc,hname⟩
  refine callsIn_wide.1 (callsIn_of_wp_marks (n:=0) hfn hc trivial (wpIn_wide.2 ?_) rfl)
  have plain:∀ s,tfin T fn.results.toList s=some (S.enc r)→∀ a w',SS w (noK φ) fn.ntmps s a w'→LeavesInM Fence.wide 0 P fn a.tmps (fun e w'=>∃ v' η',e=.returned v'∧VR η' (S.enc r).1 v'∧(∀ M,HR M η' (q6o (S.enc r).2) w')∧Fr w (noK φ) (q6o (S.enc r).2) η' w') [] .returning w':=fun s hs a w' hss =>
    (q8d (S:=S) (r:=r) hT hs a w' hss).2
  have e1:∀ s,tfin T fn.results.toList s=some (S.enc r)→∀ a w',SS w (noK φ) fn.ntmps s a w'→LeavesInM Fence.wide 0 P fn a.tmps (fun e w'=>∃ v' η',e=.returned v'∧VR η' (S.enc r).1 v'∧(∀ M,HR M η' (q6o (S.enc r).2) w')∧Fr w (noK φ) (q6o (S.enc r).2) η' w') a.defers .returning w':=fun s hs a w' hss=>by
    rw [hss.defers];exact plain s hs a w' hss
  have e2:∀ φ',qtx w (noK φ) φ'→∀ s,tfin T fn.results.toList s=some (S.enc r)→∀ a w',SS w φ' fn.ntmps s a w'→LeavesInM Fence.wide 0 P fn a.tmps (fun e w'=>∃ v' η',e=.returned v'∧VR η' (S.enc r).1 v'∧(∀ M,HR M η' (q6o (S.enc r).2) w')∧Fr w (noK φ) (q6o (S.enc r).2) η' w') a.defers .returning w':=by
    rintro φ' ⟨d,hd,rfl⟩ s hs a w' hss
    rw [hss.defers]
    obtain ⟨η,h1,h2,h3⟩:=hss.emb
    obtain ⟨k1,k2,k3⟩:=h3.kp d _ (.inr ⟨rfl,rfl⟩)
    have hb:=OnlyB.put w' d (.deferred none)
    have h3':Fr w (noK φ) (q6o s.ob) η w':=⟨h3.size,h3.same,h3.lb,h3.fz0,h3.fzn,h3.os,h3.tape,h3.output,h3.drawn,fun k o h=>h.elim⟩
    refine ⟨by simp,.inl ⟨d,_,rfl,run_takeDeferred k1,?_⟩⟩
    exact plain s hs { a with defers:=[] } _ ⟨⟨η,fun M=>(h1 M).only hb k2 k3,h2,h3'.only hb hd fun o h=>h⟩,hss.size,rfl⟩
  refine h x r hx w (noK φ) _ ⟨fun s hs=>⟨fun a w' hss=>e1 s hs a w' hss,fun a w' hss=>e1 s hs a w' hss⟩,fun φ' hl s hs=>⟨fun a w' hss=>e2 φ' hl s hs a w' hss,fun a w' hss=>e2 φ' hl s hs a w' hss⟩⟩ _ w ⟨⟨Emb.fro φ,q8b hφ,fun n l hl=>?_,q8c w φ⟩,?_,rfl⟩
  · obtain ⟨_, h2⟩ := q8a _ 0 n l hl
    rw [Nat.sub_zero] at h2
    obtain ⟨v,e1,e2⟩:=hv.get h2
    refine ⟨v,?_,e2⟩
    have hlt:=(List.getElem?_eq_some_iff.1 e1).1
    rw [Array.getElem?_append_left (by simpa using hlt)]
    simpa using e1
  · simp;omega
end
end Go.Tx

namespace Go.Tx
open Go Go.RegC
theorem qu0 {α:Type} {c:Bool} {A:Option α} {r:α} (h:(bif c then A else none)=some r):c=true∧A=some r:=by
  cases c with
  | true=>exact ⟨rfl,h⟩
  | false=>cases h
theorem qu1 {k:List Nat} {tm:List (Nat×LV)} (hk:k=tm.map Prod.fst) {n:Nat} {l:LV} (h:(n,l)∈tm):n∈k:=by
  rw [hk];exact List.mem_map.2 ⟨(n,l),h,rfl⟩
theorem qu2 {a:Array Value} {i:Nat} {v:Value} (h:i<a.size):(a.setIfInBounds i v)[i]?=some v:=by
  simp [Array.getElem?_setIfInBounds,h]
theorem qu3 {a:Array Value} {i j:Nat} {v:Value} (h:Nat.beq i j=false):(a.setIfInBounds i v)[j]?=a[j]? :=
  Array.getElem?_setIfInBounds_ne (Nat.ne_of_beq_eq_false h)
theorem qu4 {V:Nat→Value→Prop} {w0:World} {φ0:Fz0} {N:Nat} {tm:List (Nat×LV)} {ob:List Ob} {s:St} {Q:Exit→Act→World→Prop} {e:Exit} (ks:List Nat) (hs:tnum (qcu ks tm) (q6o ob) some=some s) (h:CnI V w0 φ0 N s Q e):CnI V w0 φ0 N ⟨tm,ob⟩ Q e:=fun a w hss hv=>by
  obtain ⟨s',h1,h2⟩:=q7h hs
  injection h1 with h1;subst h1
  obtain ⟨⟨η,g1,g2,g3⟩,g4,g5⟩:=hss
  exact h a w (h2 w0 φ0 0 η w a N (g1 0) (fun n l hl=>g2 n l (qcv ks tm _ hl)) g3 g4 g5) hv
theorem qu6 {p q:Nat} {v u:Value} {t:Array Value}:((#[p,q]:Array Tmp).zip #[v,u]).foldl (fun t (p,v)=>t.setIfInBounds p v) t=(t.setIfInBounds p v).setIfInBounds q u:=by simp
end Go.Tx

namespace Go.Tx
open Go Go.Sort Go.RowKit Go.Proofs Go.Shelf
theorem qu7 {α:Type} [Inhabited α] (enc:α→List Value) (k:Nat) (hk:∀ x,(enc x).length=k):∀ (l:List α),(flatK enc k l.toArray).toList=l.flatMap enc:=by
  intro l
  have key:∀ (l:List α) (t:Nat),t<l.length*k→(l.flatMap enc)[t]?=some ((enc l[t / k]!)[t % k]!):=by
    intro l
    induction l with
    | nil=>intro t ht;simp at ht
    | cons a r ih =>
      intro t ht
      have k0:0<k:=by
        rcases Nat.eq_zero_or_pos k with h | h
        · subst h;simp at ht
        · exact h
      rw [List.flatMap_cons]
      by_cases hlt:t<k
      · rw [List.getElem?_append_left (by rw [hk]; exact hlt), Nat.div_eq_of_lt hlt, Nat.mod_eq_of_lt hlt]
        have:t<(enc a).length:=by rw [hk];exact hlt
        simp [this]
      · rw [List.getElem?_append_right (by rw [hk]; omega), hk]
        have h2:t - k<r.length*k:=by
          rw [List.length_cons,Nat.add_mul,Nat.one_mul] at ht;omega
        rw [ih (t - k) h2]
        have e1:t / k=(t - k) / k+1:=by
          have:=Nat.div_eq_sub_div k0 (by omega:k≤t)
          omega
        have e2:t % k=(t - k) % k:=Nat.mod_eq_sub_mod (by omega)
        rw [e1,e2]
        simp
  have hlen:(l.flatMap enc).length=l.length*k:=by
    induction l with
    | nil=>simp
    | cons a r ih=>rw [List.flatMap_cons,List.length_append,ih,hk,List.length_cons,Nat.add_mul,Nat.one_mul];omega
  apply List.ext_getElem?
  intro t
  by_cases ht:t<l.length*k
  · rw [key l t ht]
    simp [flatK,ht]
  · rw [List.getElem?_eq_none (by simp [flatK];omega),List.getElem?_eq_none (by rw [hlen];omega)]
def eqR:(τ:Row)→den τ→den τ→Bool
  | .nil,_,_=>true
  | .int _ r,x,y=>x.1==y.1&&eqR r x.2 y.2
  | .bool r,x,y=>x.1==y.1&&eqR r x.2 y.2
  | .sl _ _,_,_=>false
theorem qu8:∀ (τ:Row) (x y:den τ),eqR τ x y=true→x=y
  | .nil,_,_,_=>rfl
  | .int k r, x, y, h => by
    rw [eqR,Bool.and_eq_true,beq_iff_eq] at h
    exact Prod.ext h.1 (qu8 r x.2 y.2 h.2)
  | .bool r, x, y, h => by
    rw [eqR,Bool.and_eq_true,beq_iff_eq] at h
    exact Prod.ext h.1 (qu8 r x.2 y.2 h.2)
  | .sl _ _,_,_,h=>by cases h
section
variable {τ:Row} (F:den τ×den τ×Unit→Option Int)
def cmpV (x y:den τ):Int:=match F (x,y,()) with | some n=>n | none=>0
def ltV (x y:den τ):Bool:=decide (cmpV F x y<0)
def qu9 (xs:List (den τ)):Bool :=
  xs.all (fun x=>xs.all fun y=>(F (x,y,())).isSome)&&xs.all (fun x=>!(ltV F x x)) &&
  xs.all (fun x=>xs.all fun y=>!(ltV F x y) || xs.all fun z=>!(ltV F y z) || ltV F x z) &&
  xs.all (fun x=>xs.all fun y=>ltV F x y || xs.all fun z=>ltV F y z || !(ltV F x z)) &&
  xs.all (fun x=>xs.all fun y=>ltV F x y || ltV F y x || eqR τ x y)
end
def insL {α:Type} (lt:α→α→Bool) (x:α):List α→List α
  | []=>[x]
  | y :: ys=>bif lt x y then x :: y :: ys else y :: insL lt x ys
def qua {α:Type} (lt:α→α→Bool):List α→List α
  | []=>[]
  | x :: xs=>insL lt x (qua lt xs)
def qub {τ:Row} (F:den τ×den τ×Unit→Option Int) (xs:List (den τ)):Option (List (den τ)):=bif Nat.ble xs.length 1000000&&qu9 F xs then some (qua (ltV F) xs) else none
theorem quc {α:Type} (lt:α→α→Bool) (x:α):∀ l:List α,(insL lt x l).Perm (x :: l)
  | []=>.refl _
  | y :: ys => by
    rw [insL]
    cases lt x y with
    | true=>exact .refl _
    | false=>exact ((quc lt x ys).cons y).trans (.swap x y ys)
theorem qud {α:Type} (lt:α→α→Bool):∀ l:List α,(qua lt l).Perm l
  | []=>.refl _
  | x :: xs=>by rw [qua];exact (quc lt x _).trans ((qud lt xs).cons x)
theorem que {α:Type} {lt:α→α→Bool} {S:α→Prop} (has:∀ a b,S a→S b→lt a b=true→lt b a=false) (hn:∀ a b c,S a→S b→S c→lt a b=false→lt b c=false→lt a c=false) {x:α} (hx:S x):∀ l:List α,(∀ a∈l,S a)→l.Pairwise (fun a b=>lt b a=false)→(insL lt x l).Pairwise (fun a b=>lt b a=false)
  | [],_,_=>List.pairwise_singleton _ _
  | y :: ys, hS, hp => by
    obtain ⟨h1,h2⟩:=List.pairwise_cons.1 hp
    have hy:=hS y (List.mem_cons_self ..)
    rw [insL]
    cases hl:lt x y with
    | true =>
      refine List.pairwise_cons.2 ⟨fun b hb=>?_,hp⟩
      have hyx:=has x y hx hy hl
      rcases List.mem_cons.1 hb with rfl | hb
      · exact hyx
      · exact hn b y x (hS b (List.mem_cons_of_mem _ hb)) hy hx (h1 b hb) hyx
    | false =>
      refine List.pairwise_cons.2 ⟨fun b hb=>?_,que has hn hx ys (fun a ha=>hS a (List.mem_cons_of_mem _ ha)) h2⟩
      rcases List.mem_cons.1 ((quc lt x ys).mem_iff.1 hb) with rfl | hb
      · exact hl
      · exact h1 b hb
theorem quf {α:Type} {lt:α→α→Bool} {S:α→Prop} (has:∀ a b,S a→S b→lt a b=true→lt b a=false) (hn:∀ a b c,S a→S b→S c→lt a b=false→lt b c=false→lt a c=false):∀ l:List α,(∀ a∈l,S a)→(qua lt l).Pairwise (fun a b=>lt b a=false)
  | [],_=>.nil
  | x :: xs, hS => by
    rw [qua]
    exact que has hn (hS x (List.mem_cons_self ..)) _ (fun a ha=>hS a (List.mem_cons_of_mem _ ((qud lt xs).mem_iff.1 ha))) (quf has hn xs fun a ha=>hS a (List.mem_cons_of_mem _ ha))
theorem quh {η:Emb}:∀ (τ:Row) (x:den τ),qbv τ=true→VRs η (split τ x) (qgz τ x)
  | .nil,_,_=>VRs.nil
  | .int k r,x,hp=>VRs.cons (.int _ _) (quh r x.2 hp)
  | .bool r,x,hp=>VRs.cons (.bool _) (quh r x.2 hp)
  | .sl e r,_,hp=>by cases hp
theorem qui:∀ (τ:Row) (x:den τ),qbv τ=true→∀ v∈qgz τ x,v.oneCell'=true
  | .nil,_,_,v,hv=>by simp [qgz] at hv
  | .int k r, x, hp, v, hv => by
    rw [qgz] at hv
    rcases List.mem_cons.1 hv with rfl | hv
    · rfl
    · exact qui r x.2 hp v hv
  | .bool r, x, hp, v, hv => by
    rw [qgz] at hv
    rcases List.mem_cons.1 hv with rfl | hv
    · rfl
    · exact qui r x.2 hp v hv
  | .sl e r,_,hp,_,_=>by cases hp
theorem quj {η:Emb} {τ:Row} (hp:qbv τ=true):∀ xs:List (den τ),VRs η (flat τ xs) (qh0 τ xs)
  | []=>VRs.nil
  | x :: xs=>by rw [flat,qh0];exact (quh τ x hp).append (quj hp xs)
theorem quk {η:Emb} {τ:Row} (hp:qbv τ=true) (xs:List (den τ)) (j:Nat) (c:LV) (hc:(flat τ xs)[j]?=some c) (v:Value) (hv:VR η c v):(qh0 τ xs)[j]?=some v:=by
  have hl:=(quj (η:=η) hp xs).1
  have hj:j<(qh0 τ xs).length:=by rw [← hl];exact (List.getElem?_eq_some_iff.1 hc).1
  obtain ⟨u,hu⟩:∃ u,(qh0 τ xs)[j]?=some u:=⟨_,List.getElem?_eq_getElem hj⟩
  have h2:=(quj (η:=η) hp xs).2 j c u hc hu
  obtain ⟨x,hx⟩:=q74 τ xs (List.mem_of_getElem? hc)
  have:u=v:=by
    have hp2:∀ (σ:Row) (y:den σ),qbv σ=true→∀ d∈split σ y,(∃ k n,d=.int k n) ∨ ∃ b,d=.bool b:=by
      intro σ
      induction σ with
      | nil=>intro y _ d hd;simp [split] at hd
      | int k r ih =>
        intro y hpp d hd
        rw [split] at hd
        rcases List.mem_cons.1 hd with rfl | hd
        · exact .inl ⟨_,_,rfl⟩
        · exact ih y.2 hpp d hd
      | bool r ih =>
        intro y hpp d hd
        rw [split] at hd
        rcases List.mem_cons.1 hd with rfl | hd
        · exact .inr ⟨_,rfl⟩
        · exact ih y.2 hpp d hd
      | sl e r _ _=>intro y hpp;cases hpp
    rcases hp2 τ x hp c hx with ⟨k,n,rfl⟩ | ⟨b,rfl⟩
    · cases h2;cases hv;rfl
    · cases h2;cases hv;rfl
  rw [hu,this]
theorem qul {τ:Row}:∀ xs:List (den τ),qh0 τ xs=xs.flatMap (qgz τ)
  | []=>rfl
  | x :: xs=>by rw [qh0,List.flatMap_cons,qul xs]
theorem qum {M:Nat} {H:LH} {η:Emb} {w w':World} (h:HR M η H w) {b:Nat} {τ:Row} {xs ys:List (den τ)} (hg:H.get b=some (.rows τ xs)) (hlv:Lv η w' b (.rows τ ys)) (hs:w.heap.size≤w'.heap.size)
    (hother:∀ k,k<w.heap.size→(∀ L,η.loc b=some L→k≠L.block)→w'.heap[k]?=w.heap[k]?) (e1:w'.os=w.os) (e2:w'.tape=w.tape) (e3:w'.output=w.output) (e4:w.drawn≤w'.drawn) :
    Adv M H η w (H.put b (some (.rows τ ys))) η w':=by
  have hget:∀ x ob2,(H.put b (some (.rows τ ys))).get x=some ob2→(x=b∧ob2=.rows τ ys)∨(x≠b∧H.get x=some ob2):=fun x ob2 hx=>by
    rw [LH.get_put] at hx
    split at hx
    · rename_i he;injection hx with hx;exact .inl ⟨he,hx.symm⟩
    · rename_i he;exact .inr ⟨he,hx⟩
  have hg0:∀ x ob2,(H.put b (some (.rows τ ys))).get x=some ob2→∃ ob0,H.get x=some ob0:=fun x ob2 hx=>by
    rcases hget x ob2 hx with ⟨rfl,_⟩ | ⟨_,hg'⟩
    · exact ⟨_,hg⟩
    · exact ⟨_,hg'⟩
  have hlb:∀ k,LB (H.put b (some (.rows τ ys))) η k→LB H η k:=fun k ⟨x,ob2,L',hx,hL',hk⟩=>let ⟨ob0,hg'⟩:=hg0 _ _ hx;⟨x,ob0,L',hg',hL',hk⟩
  refine ⟨Emb.le_refl _,fun _ _=>⟨rfl,rfl⟩,Nat.le_refl _,⟨h.dom,fun x ob2 hx=>let ⟨_,hg'⟩:=hg0 x ob2 hx;h.lt x _ hg',fun x ob2 hx=>?_,fun b1 b2 c1 c2 L1 L2 h1 h2 f1 f2 he=>?_,fun k o2 hk=>?_,fun k hk=>h.sep k (hlb k hk),h.ok⟩,hs,fun k hk hn=>hother k hk fun L hL he=>hn ⟨b,_,L,hg,hL,he.symm⟩,
    fun k hk=>.inl (hlb k hk),fun _ _ hk=>.inl hk,e1,e2,e3,e4⟩
  · rcases hget x ob2 hx with ⟨rfl, rfl⟩ | ⟨hne, hg'⟩
    · exact hlv
    · have hl := h.live x ob2 hg'
      exact hl.move (Emb.le_refl _) rfl hs fun L' hL'=>hother _ (hl.lt hL') fun L hL he=>hne (h.inj _ _ _ _ _ _ hg' hg hL' hL he)
  · obtain ⟨d1, g1⟩ := hg0 _ _ h1
    obtain ⟨d2,g2⟩:=hg0 _ _ h2
    exact h.inj _ _ _ _ _ _ g1 g2 f1 f2 he
  · have hk0 := h.fz k o2 hk
    rw [hother k (Array.getElem?_eq_some_iff.1 hk0).1 fun L hL he=>by
      have:=h.sep L.block ⟨b,_,L,hg,hL,rfl⟩
      rw [← he,hk] at this;cases this]
    exact hk0
section
variable {P:Program} {ρ:Ren}
theorem qun {τ:Row} {F:den τ×den τ×Unit→Option Int} {xs:List (den τ)} (h:qu9 F xs=true) :
    (∀ x∈xs,∀ y∈xs,F (x,y,())=some (cmpV F x y))∧SWO (ltOf fun (x y:{x:den τ // x∈xs})=>cmpV F x.1 y.1)∧∀ x y:{x:den τ // x∈xs},(ltOf fun (x y:{x:den τ // x∈xs})=>cmpV F x.1 y.1) x y=false→(ltOf fun (x y:{x:den τ // x∈xs})=>cmpV F x.1 y.1) y x=false→x=y:=by
  unfold qu9 at h
  simp only [Bool.and_eq_true,List.all_eq_true] at h
  obtain ⟨⟨⟨⟨h1,h2⟩,h3⟩,h4⟩,h5⟩:=h
  have e:∀ x y:{x:den τ // x∈xs},(ltOf fun (x y:{x:den τ // x∈xs})=>cmpV F x.1 y.1) x y=ltV F x.1 y.1:=fun _ _=>rfl
  refine ⟨fun x hx y hy=>?_,⟨fun x=>?_,fun x y z a b=>?_,fun x y z a b=>?_⟩,fun x y a b=>?_⟩
  · have := h1 x hx y hy
    unfold cmpV
    cases hF:F (x,y,()) with
    | none=>rw [hF] at this;cases this
    | some n=>rfl
  · have := h2 x.1 x.2
    rw [e];simpa using this
  · rw [e] at a b ⊢
    have:=h3 x.1 x.2 y.1 y.2
    rw [a] at this
    simp only [Bool.not_true,Bool.false_or,List.all_eq_true] at this
    have:=this z.1 z.2
    rw [b] at this
    simpa using this
  · rw [e] at a b ⊢
    have:=h4 x.1 x.2 y.1 y.2
    rw [a] at this
    simp only [Bool.false_or,List.all_eq_true] at this
    have:=this z.1 z.2
    rw [b] at this
    simpa using this
  · rw [e] at a b
    have:=h5 x.1 x.2 y.1 y.2
    rw [a,b] at this
    simp only [Bool.false_or] at this
    exact Subtype.ext (qu8 τ _ _ this)
theorem qup {τ:Row} {F:den τ×den τ×Unit→Option Int} {xs:List (den τ)} (h:qu9 F xs=true):(xs.attach.mergeSort fun x y=>!(ltOf fun (x y:{x:den τ // x∈xs})=>cmpV F x.1 y.1) y x).map Subtype.val=qua (ltV F) xs:=by
  obtain ⟨_,hO,hT⟩:=qun h
  have e:∀ x y:{x:den τ // x∈xs},(ltOf fun (x y:{x:den τ // x∈xs})=>cmpV F x.1 y.1) x y=ltV F x.1 y.1:=fun _ _=>rfl
  have has:∀ a b,a∈xs→b∈xs→ltV F a b=true→ltV F b a=false:=fun a b ha hb h1=>by
    cases h2:ltV F b a with
    | false=>rfl
    | true =>
      have h3:=hO.trans ⟨a,ha⟩ ⟨b,hb⟩ ⟨a,ha⟩ h1 h2
      rw [hO.irrefl] at h3;cases h3
  have hn:∀ a b c,a∈xs→b∈xs→c∈xs→ltV F a b=false→ltV F b c=false→ltV F a c=false:=fun a b c ha hb hc h1 h2=>hO.ntrans ⟨a,ha⟩ ⟨b,hb⟩ ⟨c,hc⟩ h1 h2
  refine List.Perm.eq_of_pairwise (le:=fun a b=>ltV F b a=false) ?_ ?_ (quf (S:=fun a=>a∈xs) has hn xs fun _ h=>h) ?_
  · intro a b ha hb h1 h2
    have ha':a∈xs:=by
      obtain ⟨c,_,rfl⟩:=List.mem_map.1 ha
      exact c.2
    have hb':b∈xs:=(qud (ltV F) xs).mem_iff.1 hb
    exact congrArg Subtype.val (hT ⟨a,ha'⟩ ⟨b,hb'⟩ h2 h1)
  · have hp:=List.pairwise_mergeSort (le:=fun x y=>!(ltOf fun (x y:{x:den τ // x∈xs})=>cmpV F x.1 y.1) y x) (fun x y z h1 h2=>by
      simp only [Bool.not_eq_true'] at h1 h2 ⊢
      exact hO.ntrans z y x h2 h1) (fun x y=>by
      simp only [Bool.or_eq_true,Bool.not_eq_true']
      cases h1:(ltOf fun (x y:{x:den τ // x∈xs})=>cmpV F x.1 y.1) y x with
      | false=>exact .inl rfl
      | true=>exact .inr (has _ _ y.2 x.2 h1)) xs.attach
    rw [List.pairwise_map]
    exact hp.imp fun h=>by simpa [e] using h
  · have h1 := ((List.mergeSort_perm xs.attach fun x y => !(ltOf fun (x y : {x : den τ // x ∈ xs}) => cmpV F x.1 y.1) y x).map Subtype.val)
    rw [List.attach_map_subtype_val] at h1
    exact h1.trans (qud (ltV F) xs).symm
theorem quq {w w':World} (h:Bel w w'):∃ q os',w'=grow (w.drewN q) os':=by
  obtain ⟨x,rfl⟩:=ext_of h
  exact ⟨x.drawn,x.objs,by unfold ext grow World.drewN;rfl⟩
theorem qur (w:World) (m blk off:Nat) (Fv:Array Value) (os:Array Obj):w.heap.size≤(grow (putRow id (Sort.ahead w m) blk off Fv) os).heap.size:=by
  simp [grow,putRow,mapBlock,Sort.ahead]
theorem qus (w:World) (m blk off:Nat) (Fv:Array Value) (os:Array Obj) (k:Nat) (hk:k<w.heap.size) (hne:k≠blk):(grow (putRow id (Sort.ahead w m) blk off Fv) os).heap[k]?=w.heap[k]?:=by
  simp only [grow]
  rw [Array.getElem?_append_left (by simpa [putRow,mapBlock,Sort.ahead] using hk)]
  simp [putRow,mapBlock,Sort.ahead,Array.getElem?_modify,Ne.symm hne]
theorem qut (L:SlLaysF0.n6 P ρ) {τ:Row} (hp:qbv τ=true) (aE:∀ w,(isAgg (ρ.t 24)).run P w=.ok true w) (zE:∀ w,(Go.sizeOf (ρ.t 24)).run P w=.ok τ.size w) {g:FuncId} {F:den τ×den τ×Unit→Option Int}
    (hS:COK P ⟨g,[.row τ true,.row τ true],Int,F,fun r=>(.int .i64 r,[])⟩) {H:LH} {n:Nat} {xs ys:List (den τ)} (hg:H.get n=some (.rows τ xs)) (hy:qub F xs=some ys) :
    q4h P (ρ.f 6) [.rs n,.fn g []] H (.tup [],H.put n (some (.rows τ ys))):=by
  unfold qub at hy
  obtain ⟨hb,rfl⟩:=qu0 (A:=some (qua (ltV F) xs)) hy |>.imp id fun h=>Option.some.inj h
  rw [Bool.and_eq_true] at hb
  have hsz:=Nat.le_of_ble_eq_true hb.1
  obtain ⟨hc,hO,hT⟩:=qun hb.2
  refine ⟨Logged.put _ hg _,fun M η w vs h hM hv=>?_⟩
  obtain ⟨v1,vs,rfl,q1,hv⟩:=hv.uncons
  obtain ⟨v2,vs,rfl,q2,hv⟩:=hv.uncons
  obtain rfl:vs=[]:=by have:=hv.1;simpa using this.symm
  cases q1 with
  | rs hh1 =>
  have hv2:v2=.func (.func g) #[] #[]:=by
    cases q2 with
    | fn hl _=>rw [List.eq_nil_of_length_eq_zero hl.symm]
  subst hv2
  have hlen:∀ l:List (den τ),(qua (ltV F) l).length=l.length:=fun l=>(qud (ltV F) l).length_eq
  cases h.live _ _ hg with
  | none hL hh =>
    rename_i A
    rw [hh1] at hh;injection hh with hh;subst hh
    refine Calls.mono (AnyF.slices_SortFunc_none L A 0 (.func (.func g) #[] #[]) w) ?_
    rintro e w' ⟨rfl,rfl⟩
    refine ⟨_,η,rfl,q4z,qum h hg ?_ (Nat.le_refl _) (fun _ _ _=>rfl) rfl rfl rfl (Nat.le_refl _)⟩
    have e0:qua (ltV F) ([]:List (den τ))=[]:=rfl
    rw [e0]
    exact .none hL hh1
  | rows hL ha hh hcap hr =>
    rename_i L0 c
    rw [hh1] at hh;injection hh with hh;subst hh
    by_cases h0:xs=[]
    · subst h0
      refine Calls.mono (AnyF.slices_SortFunc_none L (some ⟨L0.block,L0.base,none⟩) c (.func (.func g) #[] #[]) w) ?_
      rintro e w' ⟨rfl,rfl⟩
      refine ⟨_,η,rfl,q4z,qum h hg ?_ (Nat.le_refl _) (fun _ _ _=>rfl) rfl rfl rfl (Nat.le_refl _)⟩
      have e0:qua (ltV F) ([]:List (den τ))=[]:=rfl
      rw [e0]
      exact .rows hL ha hh1 hcap hr
    · haveI : Inhabited {x : den τ // x ∈ xs} := ⟨⟨xs.head h0, List.head_mem h0⟩⟩
      have eg:∀ args w,(callFunc g args).run P w=.ok (.enter g args) w:=by
        obtain ⟨fn,bd,b1,b2,b3⟩:=hS.body
        intro args w
        have b4:¬ fn.body=none:=by rw [b2];simp
        have b1':P.funcs[g]?=some fn:=b1
        simp [callFunc,b1',b3,b4]
      have hk:∀ x:{x:den τ // x∈xs},(qgz τ x.1).length=τ.size:=fun x=>qh3 τ hp x.1
      have hflat:∀ m:List {x:den τ // x∈xs},(flatK (fun x:{x:den τ // x∈xs}=>qgz τ x.1) τ.size m.toArray).toList=qh0 τ (m.map Subtype.val):=fun m=>by
        rw [qu7 _ _ hk,qul,List.flatMap_map]
      have hcmp:CmpLays P g #[] (fun x:{x:den τ // x∈xs}=>qgz τ x.1) τ.size (fun x y=>cmpV F x.1 y.1) L0.block L0.base xs.attach.toArray.size w:=by
        intro m os dk _ x y
        have hF:=hc x.1 x.2 y.1 y.2
        have h2:=hS.ok (x.1,y.1,()) (cmpV F x.1 y.1) hF (sortWorldK (fun x:{x:den τ // x∈xs}=>qgz τ x.1) τ.size w L0.block L0.base m dk os) (fun _=>none) [.agg (qgz τ x.1).toArray,.agg (qgz τ y.1).toArray] (fun k ob hk=>by cases hk)
          (VRs.cons (VR.aggL (quh τ x.1 hp)) (VRs.cons (VR.aggL (quh τ y.1 hp)) VRs.nil))
        refine Calls.mono h2 ?_
        rintro e w' ⟨v',η',rfl,hvr,_,hfr⟩
        have hv':v'=.int .i64 (cmpV F x.1 y.1):=by
          have hvr:VR η' (.int .i64 (cmpV F x.1 y.1)) v':=hvr
          cases hvr;rfl
        rw [hv']
        exact ⟨rfl,quq ⟨⟨hfr.os,hfr.tape,hfr.output,hfr.size,fun k hk=>hfr.same k hk⟩,hfr.drawn⟩⟩
      have hfl:flatK (fun x:{x:den τ // x∈xs}=>qgz τ x.1) τ.size xs.attach.toArray=(qh0 τ xs).toArray:=by
        apply Array.toList_inj.1
        rw [hflat,List.attach_map_subtype_val]
      have hfl2:∀ l:List (den τ),(flat τ l).length=(qh0 τ l).length:=fun l=>(quj (η:=η) hp l).1
      have hH:HoldsK (fun x:{x:den τ // x∈xs}=>qgz τ x.1) τ.size w L0.block L0.base xs.attach.toArray:=by
        unfold HoldsK
        rw [hfl]
        intro j hj
        have hj':j<(qh0 τ xs).length:=by simpa using hj
        obtain ⟨cl,hcl⟩:∃ cl,(flat τ xs)[j]?=some cl:=⟨_,List.getElem?_eq_getElem (by rw [hfl2];exact hj')⟩
        obtain ⟨v,g1,g2⟩:=ha.cell j cl hcl
        have g3:=quk hp xs j cl hcl v g2
        have hf:=ha.fits
        refine ⟨?_,(ha.there (L0.base+j) (by omega) (by have:=hfl2 xs;omega)).2⟩
        rw [g1]
        congr 1
        rw [getElem!_pos _ _ (by simpa using hj')]
        have:=(List.getElem?_eq_some_iff.1 g3).2
        simp [this]
      have hcon:=AnyQ.slices_SortFunc_total L τ.size aE zE (fun x:{x:den τ // x∈xs}=>qgz τ x.1) hk (fun x v hv=>qui τ x.1 hp v hv) (fun x y=>cmpV F x.1 y.1) hO g #[] L0.block L0.base c xs.attach.toArray w eg hcmp hH ha.lt (by simp;omega) hT
      have hats:xs.attach.toArray.size=xs.length:=by simp
      rw [hats] at hcon
      refine Calls.mono hcon ?_
      rintro e w' ⟨rfl,m,os,rfl⟩
      have hF:flatK (fun x:{x:den τ // x∈xs}=>qgz τ x.1) τ.size (xs.attach.toArray.toList.mergeSort fun x y=>!(ltOf fun (x y:{x:den τ // x∈xs})=>cmpV F x.1 y.1) y x).toArray=(qh0 τ (qua (ltV F) xs)).toArray:=by
        apply Array.toList_inj.1
        rw [hflat]
        congr 1
        have:=qup hb.2
        simpa using this
      unfold sortWorldK putRowK
      rw [hF]
      have hvl:(qh0 τ (qua (ltV F) xs)).length=(qh0 τ xs).length:=by rw [qh4 hp,qh4 hp,hlen]
      have hyl:=hlen xs
      unfold HoldsK at hH
      rw [hfl] at hH
      generalize qua (ltV F) xs=ys at hvl hyl ⊢
      have hfit:=ha.fits
      have hfx:=hfl2 xs
      have hfy:=hfl2 ys
      obtain ⟨W1,hW1⟩:∃ W1,putRow id (Sort.ahead w m) L0.block L0.base (qh0 τ ys).toArray=W1:=⟨_,rfl⟩
      have hsz1:W1.heap.size=w.heap.size:=by rw [← hW1];simp [putRow,mapBlock,Sort.ahead]
      have hblk:(grow W1 os).heap[L0.block]?=W1.heap[L0.block]?:=by
        simp only [grow]
        rw [Array.getElem?_append_left (by rw [hsz1];exact ha.lt)]
      have hfr:∀ j,W1.frozen? ⟨L0.block,j,none⟩=w.frozen? ⟨L0.block,j,none⟩:=fun j=>by rw [← hW1,frozen?_putRow];rfl
      have hin:∀ j,j<(qh0 τ ys).length→W1.cell? ⟨L0.block,L0.base+j,none⟩=some ((qh0 τ ys).toArray[j]!):=fun j hj=>by
        rw [← hW1]
        exact cell?_putRow id (Sort.ahead w m) L0.block L0.base (qh0 τ xs).toArray (qh0 τ ys).toArray hH (by simp [hvl]) j (by simpa using hj)
      have hout:∀ j,L0.base+(qh0 τ ys).length≤j→W1.cell? ⟨L0.block,j,none⟩=w.cell? ⟨L0.block,j,none⟩:=fun j hj=>by
        rw [← hW1,cell?_putRow_other id (Sort.ahead w m) L0.block L0.base (qh0 τ ys).toArray ⟨L0.block,j,none⟩ (.inr (.inr (by simpa using hj)))];rfl
      have hat2:At η (grow W1 os) (flat τ ys) L0:=by
        refine ⟨?_,by omega,fun j h1 h2=>⟨?_,?_⟩,fun j c hcj=>?_⟩
        · have := ha.lt
          simp only [grow,Array.size_append];omega
        · rw [qq hblk]
          by_cases hj:j<L0.base+(qh0 τ ys).length
          · have := hin (j - L0.base) (by omega)
            rw [show L0.base+(j - L0.base)=j by omega] at this
            rw [this];rfl
          · rw [hout j (by omega)];exact (ha.there j h1 h2).1
        · rw [qr hblk,hfr];exact (ha.there j h1 h2).2
        · have hj : j < (qh0 τ ys).length := by rw [← hfy]; exact (List.getElem?_eq_some_iff.1 hcj).1
          refine ⟨(qh0 τ ys)[j],?_,(quj hp ys).2 j c _ hcj (List.getElem?_eq_getElem hj)⟩
          rw [qq hblk,hin j hj]
          congr 1
          rw [getElem!_pos _ _ (by simpa using hj)]
          simp
      subst hW1
      refine ⟨_,η,rfl,q4z,qum h hg (.rows hL hat2 (by rw [hyl];exact hh1) (by rw [hyl];exact hcap) hr) ?_ (fun k hk hne=>?_) ?_ ?_ ?_ ?_⟩
      · exact qur ..
      · exact qus _ _ _ _ _ _ k hk (hne L0 hL)
      · rfl
      · rfl
      · rfl
      · simp [grow,putRow,mapBlock,Sort.ahead]
def orcS (f g:FuncId) (τ:Row) (F:den τ×den τ×Unit→Option Int) (C:Orc):Orc:=fun h args H =>
  bif Nat.beq h f then (match args with
    | [.rs n, .fn g' []] => bif Nat.beq g' g then (match H.get n with
      | some (.rows σ xs)=>if e:σ=τ then some ⟨List (den τ),qub F (e ▸ xs),fun r=>(.tup [],H.put n (some (.rows τ r)))⟩ else none
      | _=>none) else none
    | _=>none) else C h args H
theorem quu (L:SlLaysF0.n6 P ρ) {τ:Row} (hp:qbv τ=true) (aE:∀ w,(isAgg (ρ.t 24)).run P w=.ok true w) (zE:∀ w,(Go.sizeOf (ρ.t 24)).run P w=.ok τ.size w) {g:FuncId} {F:den τ×den τ×Unit→Option Int}
    (hS : COK P ⟨g, [.row τ true, .row τ true], Int, F, fun r => (.int .i64 r, [])⟩) (hbody : ∃ fn c, P.funcs[ρ.f 6]? = some fn ∧ fn.body = some c ∧ ¬ fn.name = "runtime.NumGoroutine") {C : Orc} (hC : OrcOK P C) : OrcOK P (orcS (ρ.f 6) g τ F C) := by
  have key:∀ h args H p,orcS (ρ.f 6) g τ F C h args H=some p→(C h args H=some p)∨(h=ρ.f 6∧∃ n xs,args=[.rs n,.fn g []]∧H.get n=some (.rows τ xs)∧p=⟨List (den τ),qub F xs,fun r=>(.tup [],H.put n (some (.rows τ r)))⟩):=by
    intro h args H p hp
    unfold orcS at hp
    rw [Bool.cond_eq_ite] at hp
    split at hp
    · rename_i he
      have he:=Nat.eq_of_beq_eq_true he
      split at hp
      · rename_i n g'
        rw [Bool.cond_eq_ite] at hp
        split at hp
        · rename_i hg
          have hg:=Nat.eq_of_beq_eq_true hg
          subst hg
          split at hp
          · rename_i σ xs hn
            split at hp
            · rename_i e
              subst e
              injection hp with hp
              exact .inr ⟨he,n,xs,rfl,hn,hp.symm⟩
            · cases hp
          · cases hp
        · cases hp
      · cases hp
    · exact .inl hp
  refine ⟨fun h args H p x hp' hx=>?_⟩
  rcases key h args H p hp' with h1 | ⟨rfl,n,xs,rfl,hn,rfl⟩
  · exact hC.call h args H p x h1 hx
  · exact .inl ⟨qut L hp aE zE hS hn hx,hbody⟩
end
end Go.Tx

namespace Go.Proofs.YtpfhgnccpiildaaGreat
open Go Go.Tx Go.RowKit Go.Pel
theorem quv {η:Emb} {a b c d:Int} {v:Value} (hv:VR η (.agg [.int .i64 a,.int .i64 b,.int .i64 c,.int .i64 d]) v):v=.agg #[.int .i64 a,.int .i64 b,.int .i64 c,.int .i64 d]:=by
  cases hv with
  | agg hl hh =>
    obtain ⟨u1,vs,rfl,h1,h⟩:=VRs.uncons ⟨hl,hh⟩
    obtain ⟨u2,vs,rfl,h2,h⟩:=VRs.uncons h
    obtain ⟨u3,u4,rfl,h3,h4⟩:=vrs2 h
    cases h1;cases h2;cases h3;cases h4;rfl
def sumB (a b c d:Int):Bool:=decide ((-9223372036854775808≤a∧a<9223372036854775808)∧(-9223372036854775808≤b∧b<9223372036854775808)∧(-9223372036854775808≤c∧c<9223372036854775808)∧(-9223372036854775808≤d∧d<9223372036854775808)∧(-38685626227668133590597632≤a*b∧a*b≤38685626227668133590597632)∧(-38685626227668133590597632≤c*d∧c*d≤38685626227668133590597632))
theorem quw {a b c d:Int} (h:sumB a b c d=true) (w:World):Calls Tryz.prog 105 #[.agg #[.int .i64 a,.int .i64 b,.int .i64 c,.int .i64 d]] w fun e w'=>e=.returned (.agg #[.int .i64 ((a*b+c*d) / 18446744073709551616),.int .u64 ((a*b+c*d) % 18446744073709551616)])∧∃ x,w'=ext w x:=by
  obtain ⟨h1,h2,h3,h4,h5,h6⟩:=of_decide_eq_true h
  exact ql4 a b c d w h1 h2 h3 h4 h5 h6
end Go.Proofs.YtpfhgnccpiildaaGreat

namespace Go.Pel
open Go Go.Tx
theorem qux {l:List Pt} (h:incB l=true):(l.map Pt.id).Nodup:=by
  unfold List.Nodup
  rw [List.pairwise_iff_getElem]
  intro i j hi hj hij
  simp only [List.length_map] at hi hj
  have:=qg2 h hij (List.getElem?_eq_getElem hi) (List.getElem?_eq_getElem hj)
  simp;omega
theorem quy (p q:Pt) (n d:Int):leads p q n d=true↔(q.a*d+q.b*n<p.a*d+p.b*n)∨(q.a*d+q.b*n=p.a*d+p.b*n∧(q.b<p.b∨(q.b=p.b∧p.id<q.id))):=by
  have e:farD p q n d=(p.a*d+p.b*n) - (q.a*d+q.b*n):=by unfold farD;rw [Int.sub_mul,Int.sub_mul];omega
  unfold leads
  rw [e]
  generalize p.a*d+p.b*n=P
  generalize q.a*d+q.b*n=Q
  repeat' split
  all_goals simp only [decide_eq_true_eq]
  all_goals omega
def ordI (n d:Int) (l:List Pt):List Pt:=qua (fun p q=>leads p q n d) l
def quz (l:List Pt) (n d:Int):List Int×Int:=if qg3 l≠0 then ([],qg3 l) else if qd0 n d≠0 then ([],qd0 n d) else ((ordI n d l).map Pt.id,0)
theorem qv0 (n d:Int) (l:List Pt):(ordI n d l).Perm l:=qud _ l
theorem qv1 {p q:Pt} {n d:Int} (h:leads p q n d=false):¬ ((q.a*d+q.b*n<p.a*d+p.b*n)∨(q.a*d+q.b*n=p.a*d+p.b*n∧(q.b<p.b∨(q.b=p.b∧p.id<q.id)))):=by
  intro k;rw [(quy p q n d).2 k] at h;cases h
theorem qv2 (n d:Int) (l:List Pt):(ordI n d l).Pairwise fun p q=>leads q p n d=false:=by
  refine quf (S:=fun _=>True) (fun a b _ _ h=>?_) (fun a b c _ _ _ h1 h2=>?_) l (fun _ _=>trivial)
  · rw [quy] at h
    rw [← Bool.not_eq_true,quy];omega
  · have h1 := qv1 h1
    have h2:=qv1 h2
    rw [← Bool.not_eq_true,quy];omega
theorem qv3 {n d:Int} {l:List Pt} (hinc:incB l=true) (hd:1≤d):qrh n d l=ordI n d l:=by
  refine List.Perm.eq_of_pairwise (le:=fun p q=>leads q p n d=false) ?_ ((qrk (qru hinc) (qux hinc)).imp fun {a b} h=>?_) (qv2 n d l) ((qri n d l).trans (qv0 n d l).symm)
  · intro a b _ _ h k
    have h1:=qv1 h
    have h2:=qv1 k
    have e1:a.b=b.b:=by omega
    have e2:a.id=b.id:=by omega
    have e3:a.a*d+a.b*n=b.a*d+b.b*n:=by omega
    rw [e1] at e3
    have e4:a.a*d=b.a*d:=by omega
    have e5:=Int.eq_of_mul_eq_mul_right (by omega) e4
    obtain ⟨x,y,z⟩:=a
    obtain ⟨x',y',z'⟩:=b
    simp only at e1 e2 e5
    subst e1 e2 e5
    rfl
  · rw [quy] at h
    rw [← Bool.not_eq_true,quy];omega
theorem qv4 (l:List Pt) (n d:Int):qry l n d=quz l n d:=by
  unfold qry qrt quz
  by_cases h1:qg3 l=0
  · simp only [h1, ne_eq, not_true_eq_false, if_false]
    by_cases h2:qd0 n d=0
    · simp only [h2, ne_eq, not_true_eq_false, if_false]
      rw [qv3 (qg8 h1).2.2 (qd7 h2).1]
    · simp only [h2,ne_eq,not_false_eq_true,if_true]
  · simp only [h1,ne_eq,not_false_eq_true,if_true]
end Go.Pel

namespace Go.Proofs.YtpfhgnccpiildaaGreat
open Go Go.Tx Go.Pel Go.Proofs.Tryz
set_option maxRecDepth 100000
set_option maxHeartbeats 0
abbrev qvn:List Pk:=[.row qjb true,.row Ri false]
abbrev qvo:Type:=qjc×Di×Unit
abbrev qvp:Type:=Int×Int×Int×Int
def qvq (r:qvp):LV×List Ob:=(.tup [.agg [.int .i64 r.1,.int .i64 r.2.1,.int .i64 r.2.2.1],.int .i64 r.2.2.2],[])
def qvr (F:qvo→Option qvp):Go.Tx.Spec:=⟨60,qvn,qvp,F,qvq⟩
def qvs (x:qvo):Bool:=true
def qvt (d:Nat) (x:qvo):Option qvp:=bif qvs x then some ((qgl (ptsL x.1.1) x.2.1.1).1.id,(qgl (ptsL x.1.1) x.2.1.1).1.a,(qgl (ptsL x.1.1) x.2.1.1).1.b,(qgl (ptsL x.1.1) x.2.1.1).2) else none
theorem qvu (d:Nat) (x:qvo) (h:qvs x=true):qvt d x=some ((qgl (ptsL x.1.1) x.2.1.1).1.id,(qgl (ptsL x.1.1) x.2.1.1).1.a,(qgl (ptsL x.1.1) x.2.1.1).1.b,(qgl (ptsL x.1.1) x.2.1.1).2):=by unfold qvt;rw [h];rfl
theorem qvv (d:Nat):COK prog (qvr (qvt d)):=by
 refine qhj (qhk (fn:=f60) (by kernel_rfl) (by kernel_rfl) (by kernel_rfl)) fun x r hx w φ vs hφ hv=>?_
 have hx:qvt d x=some r:=hx
 unfold qvt at hx
 obtain ⟨hc,rfl⟩:=qiz hx
 have hv:VRs (Emb.fro φ) [.agg [.fz RP x.1.1],.int .i64 x.2.1.1] vs:=hv
 obtain ⟨v0,vs,rfl,q0,hv⟩:=VRs.uncons hv
 obtain ⟨v1,rfl,q1⟩:=vrs1 hv
 obtain ⟨A0,c0,rfl,s0,z0⟩:=qiu hφ q0
 have r1:=qhe q1;subst r1
 refine (qr7 A0 c0 (ptsL x.1.1) x.2.1.1 w s0).mono ?_
 rintro e w' ⟨rfl,y,rfl⟩
 exact qhh hφ (VR.tupL (VRs.cons (VR.aggL (VRs.cons (.int _ _) (VRs.cons (.int _ _) (VRs.cons (.int _ _) VRs.nil)))) (VRs.cons (.int _ _) VRs.nil))) y
abbrev qwe:List Pk:=[.row qjb true,.row Rii true]
abbrev qwf:Type:=qjc×Dii×Unit
abbrev qwg:Type:=List Di×Int
def qwh (r:qwg):LV×List Ob:=(.tup [.rs 0,.int .i64 r.2],[.rows Ri r.1])
def qwi (F:qwf→Option qwg):Go.Tx.Spec:=⟨14,qwe,qwg,F,qwh⟩
def qwj (x:qwf):Bool:=i64B x.2.1.1&&i64B x.2.1.2.1&&decide ((ptsL x.1.1).length≤1000000)
def qwk (d:Nat) (x:qwf):Option qwg:=bif qwj x then some (unI (quz (ptsL x.1.1) x.2.1.1 x.2.1.2.1).1,(quz (ptsL x.1.1) x.2.1.1 x.2.1.2.1).2) else none
theorem qwl (d:Nat) (x:qwf) (h:qwj x=true):qwk d x=some (unI (quz (ptsL x.1.1) x.2.1.1 x.2.1.2.1).1,(quz (ptsL x.1.1) x.2.1.1 x.2.1.2.1).2):=by unfold qwk;rw [h];rfl
theorem qwm (d:Nat):COK prog (qwi (qwk d)):=by
 refine qhj (qhk (fn:=f14) (by kernel_rfl) (by kernel_rfl) (by kernel_rfl)) fun x r hx w φ vs hφ hv=>?_
 have hx:qwk d x=some r:=hx
 unfold qwk at hx
 obtain ⟨hc,rfl⟩:=qiz hx
 have hv:VRs (Emb.fro φ) [.agg [.fz RP x.1.1],.agg [.int .i64 x.2.1.1,.int .i64 x.2.1.2.1]] vs:=hv
 obtain ⟨v0,vs,rfl,q0,hv⟩:=VRs.uncons hv
 obtain ⟨v1,rfl,q1⟩:=vrs1 hv
 obtain ⟨A0,c0,rfl,s0,z0⟩:=qiu hφ q0
 have r1:=qhd q1;subst r1
 unfold qwj at hc
 simp only [Bool.and_eq_true] at hc
 obtain ⟨⟨h1,h2⟩,h3⟩:=hc
 replace h3:=of_decide_eq_true h3
 refine ((qv4 (ptsL x.1.1) x.2.1.1 x.2.1.2.1) ▸ qs5 A0 c0 (ptsL x.1.1) x.2.1.1 x.2.1.2.1 w (qiw h1) (qiw h2) s0 z0 h3).mono ?_
 rintro e w' ⟨A',c',rfl,y,rfl,ho⟩
 exact qhi hφ (τ:=Ri) rfl (qip _) ho (qis _) fun η e0=>VR.tupL (VRs.cons (.rs e0) (VRs.cons (.int _ _) VRs.nil))
abbrev qwn:List Pk:=[.row qjb true,.row Rii true]
abbrev qwo:Type:=qjc×Dii×Unit
abbrev qwp:Type:=List Di
def qwq (r:qwp):LV×List Ob:=(.rs 0,[.rows Ri r])
def qwr (F:qwo→Option qwp):Go.Tx.Spec:=⟨132,qwn,qwp,F,qwq⟩
def qws (x:qwo):Bool:=decide ((ptsL x.1.1).length≤1000000)&&((ptsL x.1.1).all fun p=>(ptsL x.1.1).all fun q=>qmc q p x.2.1.1 x.2.1.2.1)
def qwt (d:Nat) (x:qwo):Option qwp:=bif qws x then some (unI (ordK (ptsL x.1.1) x.2.1.1 x.2.1.2.1 (ptsL x.1.1).length)) else none
theorem qwu (d:Nat) (x:qwo) (h:qws x=true):qwt d x=some (unI (ordK (ptsL x.1.1) x.2.1.1 x.2.1.2.1 (ptsL x.1.1).length)):=by unfold qwt;rw [h];rfl
theorem qwv (d:Nat):COK prog (qwr (qwt d)):=by
 refine qhj (qhk (fn:=f132) (by kernel_rfl) (by kernel_rfl) (by kernel_rfl)) fun x r hx w φ vs hφ hv=>?_
 have hx:qwt d x=some r:=hx
 unfold qwt at hx
 obtain ⟨hc,rfl⟩:=qiz hx
 have hv:VRs (Emb.fro φ) [.agg [.fz RP x.1.1],.agg [.int .i64 x.2.1.1,.int .i64 x.2.1.2.1]] vs:=hv
 obtain ⟨v0,vs,rfl,q0,hv⟩:=VRs.uncons hv
 obtain ⟨v1,rfl,q1⟩:=vrs1 hv
 obtain ⟨A0,c0,rfl,s0,z0⟩:=qiu hφ q0
 have r1:=qhd q1;subst r1
 unfold qws at hc
 simp only [Bool.and_eq_true] at hc
 obtain ⟨h1,h2⟩:=hc
 replace h1:=of_decide_eq_true h1
 refine (qsp A0 c0 (ptsL x.1.1) x.2.1.1 x.2.1.2.1 w s0 h1 (fun p hp q hq=>qmd (List.all_eq_true.1 (List.all_eq_true.1 h2 p hp) q hq))).mono ?_
 rintro e w' ⟨A',c',rfl,y,rfl,ho⟩
 exact qhi hφ (τ:=Ri) rfl ((qip _).trans (qsj _ _ _ _)) ho (qis _) fun η e0=>(.rs e0)
end Go.Proofs.YtpfhgnccpiildaaGreat

namespace Go.Proofs
open Go.Shelf
def Tryz.laysSortM_ren:Go.Shelf.Ren:=⟨fun | 6=>112 | 15=>150 | 14=>149 | 28=>171 | 29=>162 | 20=>163 | 21=>164 | 22=>165 | 23=>166 | 24=>167 | 25=>168 | 26=>169 | 27=>170 | 46=>185 | 47=>186 | 48=>187 | 49=>188 | 50=>189 | 57=>194 | n=>n,fun | 22=>30 | 24=>39 | 25=>168 | 3=>3 | 39=>202 | 0=>0 | 53=>224 | 55=>98 | 4=>4 | 46=>218 | 45=>217 | 50=>147 | 5=>5 | 9=>9 | 66=>235 | 70=>239 | 76=>243 | 77=>244 | n=>n,fun | n=>n⟩
theorem Tryz.laysSortM:Go.Proofs.SlLaysF0.n6 Tryz.prog Tryz.laysSortM_ren:={
  qjt:=by kernel_rfl
  f6:=⟨Tryz.f112.name,by decide,Tryz.func112.trans (congrArg some (by kernel_rfl))⟩
  f14:=⟨Tryz.f149.name,by decide,Tryz.func149.trans (congrArg some (by kernel_rfl))⟩
  f15:=Tryz.func150.trans (congrArg some (by kernel_rfl))
  f20:=⟨Tryz.f163.name,by decide,Tryz.func163.trans (congrArg some (by kernel_rfl))⟩
  f21:=⟨Tryz.f164.name,by decide,Tryz.func164.trans (congrArg some (by kernel_rfl))⟩
  f22:=⟨Tryz.f165.name,by decide,Tryz.func165.trans (congrArg some (by kernel_rfl))⟩
  f23:=⟨Tryz.f166.name,by decide,Tryz.func166.trans (congrArg some (by kernel_rfl))⟩
  f24:=⟨Tryz.f167.name,by decide,Tryz.func167.trans (congrArg some (by kernel_rfl))⟩
  f25:=⟨Tryz.f168.name,by decide,Tryz.func168.trans (congrArg some (by kernel_rfl))⟩
  f26:=⟨Tryz.f169.name,by decide,Tryz.func169.trans (congrArg some (by kernel_rfl))⟩
  f27:=⟨Tryz.f170.name,by decide,Tryz.func170.trans (congrArg some (by kernel_rfl))⟩
  f28:=Tryz.func171.trans (congrArg some (by kernel_rfl))
  f29:=Tryz.func162.trans (congrArg some (by kernel_rfl))
  f46:=⟨Tryz.f185.name,by decide,Tryz.func185.trans (congrArg some (by kernel_rfl))⟩
  f47:=Tryz.func186.trans (congrArg some (by kernel_rfl))
  f48:=Tryz.func187.trans (congrArg some (by kernel_rfl))
  f49:=⟨Tryz.f188.name,by decide,Tryz.func188.trans (congrArg some (by kernel_rfl))⟩
  f50:=⟨Tryz.f189.name,by decide,Tryz.func189.trans (congrArg some (by kernel_rfl))⟩
  f57:=⟨Tryz.f194.name,by decide,Tryz.func194.trans (congrArg some (by kernel_rfl))⟩
  t0:=Tryz.underlying0
  a0:=Tryz.isAgg0
  z0:=Tryz.sizeOf0
  v0:=Tryz.zeroValue0
  t3:=Tryz.underlying3
  a3:=Tryz.isAgg3
  z3:=Tryz.sizeOf3
  v3:=Tryz.zeroValue3
  t4:=Tryz.underlying4
  a4:=Tryz.isAgg4
  z4:=Tryz.sizeOf4
  v4:=Tryz.zeroValue4
  t5:=Tryz.underlying5
  a5:=Tryz.isAgg5
  z5:=Tryz.sizeOf5
  v5:=Tryz.zeroValue5
  t9:=Tryz.underlying9
  a9:=Tryz.isAgg9
  z9:=Tryz.sizeOf9
  v9:=Tryz.zeroValue9
  t22:=Tryz.underlying30
  a22:=Tryz.isAgg30
  z22:=Tryz.sizeOf30
  v22:=Tryz.zeroValue30
  t25:=Tryz.underlying168
  a25:=Tryz.isAgg168
  z25:=Tryz.sizeOf168
  v25:=Tryz.zeroValue168
  t39:=Tryz.underlying202
  a39:=Tryz.isAgg202
  z39:=Tryz.sizeOf202
  v39:=Tryz.zeroValue202
  t45:=Tryz.underlying217
  a45:=Tryz.isAgg217
  z45:=Tryz.sizeOf217
  v45:=Tryz.zeroValue217
  t46:=Tryz.underlying218
  a46:=Tryz.isAgg218
  z46:=Tryz.sizeOf218
  v46:=Tryz.zeroValue218
  t50:=Tryz.underlying147
  a50:=Tryz.isAgg147
  z50:=Tryz.sizeOf147
  v50:=Tryz.zeroValue147
  t53:=Tryz.underlying224
  a53:=Tryz.isAgg224
  z53:=Tryz.sizeOf224
  v53:=Tryz.zeroValue224
  t55:=Tryz.underlying98
  a55:=Tryz.isAgg98
  z55:=Tryz.sizeOf98
  v55:=Tryz.zeroValue98
  t66:=Tryz.underlying235
  a66:=Tryz.isAgg235
  z66:=Tryz.sizeOf235
  v66:=Tryz.zeroValue235
  t70:=Tryz.underlying239
  a70:=Tryz.isAgg239
  z70:=Tryz.sizeOf239
  v70:=Tryz.zeroValue239
  t76:=Tryz.underlying243
  a76:=Tryz.isAgg243
  z76:=Tryz.sizeOf243
  v76:=Tryz.zeroValue243
  t77:=Tryz.underlying244
  a77:=Tryz.isAgg244
  z77:=Tryz.sizeOf244
  v77:=Tryz.zeroValue244 }
end Go.Proofs

namespace Go.Proofs.YtpfhgnccpiildaaGreat
open Go Go.Tx Go.Proofs.Tryz
theorem qww {g:FuncId} {F:den qje×den qje×Unit→Option Int} (hS:COK prog ⟨g,[.row qje true,.row qje true],Int,F,fun r=>(.int .i64 r,[])⟩) {C:Orc} (hC:OrcOK prog C):OrcOK prog (orcS 112 g qje F C) :=
  quu (τ:=qje) (ρ:=laysSortM_ren) laysSortM rfl isAgg39 sizeOf39 hS (qhk (fn:=f112) (by kernel_rfl) (by kernel_rfl) (by kernel_rfl)) hC
end Go.Proofs.YtpfhgnccpiildaaGreat

namespace Go.Tx
open Go Go.Pel
def qwx {α:Type}:List α→List (α×α)
  | []=>[]
  | p :: r=>r.map (fun q=>(p,q))++qwx r
def qwy {α:Type} (l:List α):Bool:=Nat.ble l.length 1000
theorem qwz {α:Type} {l:List α} {k:Nat} {p:α} (h:l[k]?=some p):qwx (l.drop k)=((l.drop (k+1)).drop 0).map (fun q=>(p,q))++qwx (l.drop (k+1)):=by
  have hk:=(List.getElem?_eq_some_iff.1 h).1
  have hp:l[k]=p:=by rw [List.getElem?_eq_getElem hk] at h;exact Option.some.inj h
  rw [List.drop_eq_getElem_cons hk,qwx,hp,List.drop_zero]
theorem qx0 {α:Type} {l:List α} {k m:Nat} {p q:α} (h:l[k+1+m]?=some q):((l.drop (k+1)).drop m).map (fun q=>(p,q))=(p,q) :: ((l.drop (k+1)).drop (m+1)).map (fun q=>(p,q)):=by
  have hk:=(List.getElem?_eq_some_iff.1 h).1
  have hp:l[k+1+m]=q:=by rw [List.getElem?_eq_getElem hk] at h;exact Option.some.inj h
  rw [List.drop_drop,List.drop_drop,List.drop_eq_getElem_cons hk,hp,List.map_cons,Nat.add_assoc (k+1) m 1]
theorem qx1 {η:Emb} {τ:Row} (h:qbv τ=true) (hs:0<τ.size) {xs:List (den τ)} {v:Value} {w:World} (hw:∀ k ob,η.fz k=some ob→w.heap[k]?=some ob) (hv:VR η (.fz τ xs) v):∃ A c,v=.slice A xs.length c∧∀ w:World,(∀ k ob,η.fz k=some ob→w.heap[k]?=some ob)→Sl w τ.size A xs.length c (qh0 τ xs):=by
  have hv':VR (Emb.fro η.fz) (.fz τ xs) v:=by
    cases hv with
    | fz hf=>exact .fz hf
  obtain ⟨A,c,rfl,_,_⟩:=qh9 hw h hs hv'
  refine ⟨A,c,rfl,fun w' hw'=>?_⟩
  obtain ⟨A',c',e,h1,_⟩:=qh9 hw' h hs hv'
  injection e with e1 e2 e3
  subst e1 e3
  exact h1
theorem el3 {w:World} {b o n c k:Nat} {l:List (Int×Int×Int×Unit)} {x:Int×Int×Int×Unit} (h:Sl w 3 (some ⟨b,o,none⟩) n c (qh0 (.int .i64 (.int .i64 (.int .i64 .nil))) l)) (hx:l[k]?=some x):w.cell? ⟨b,o+k*3,none⟩=some (.int .i64 x.1)∧w.cell? ⟨b,o+k*3+1,none⟩=some (.int .i64 x.2.1)∧w.cell? ⟨b,o+k*3+2,none⟩=some (.int .i64 x.2.2.1):=by
  have e:qh0 (.int .i64 (.int .i64 (.int .i64 .nil))) l=vp (ptsL l):=qh1 l
  rw [e] at h
  have hx':(ptsL l)[k]?=some (ofP x):=by unfold ptsL;rw [List.getElem?_map,hx];rfl
  exact qg0 h hx'
theorem qx2 {w:World} {b o:Nat} {v:Value} (h:w.cell? ⟨b,o,none⟩=some v):b<w.heap.size:=by
  unfold World.cell? at h
  cases hb:w.heap[b]? with
  | none=>rw [show w.heap[(⟨b,o,none⟩:Addr).block]?=w.heap[b]? from rfl,hb] at h;cases h
  | some ob=>exact (Array.getElem?_eq_some_iff.1 hb).1
theorem qx3 {w:World} {b:Nat} {cs:Array Value} {e:TypeId} {f:Nat×Nat} (h:w.heap[b]?=some (.cells cs e f)) (j:Nat):w.cell? ⟨b,j,none⟩=cs[j]?:=by
  unfold World.cell?
  rw [show w.heap[(⟨b,j,none⟩:Addr).block]?=w.heap[b]? from rfl,h]
  rfl
end Go.Tx
namespace Go.Proofs.YtpfhgnccpiildaaGreat
open Go Go.Tx Go.Pel Go.RowKit Go.Shelf Go.Proofs.Tryz
attribute [local go_sem] Oper.semAt_some
set_option maxRecDepth 100000 in
set_option maxHeartbeats 1000000 in
theorem qx4 {l:List Diii} (h:qwy l=true):qtw prog 147 [.fz Riii l] (fun x:Diii×Diii=>#[.agg #[.int .i64 x.1.1,.int .i64 x.1.2.1,.int .i64 x.1.2.2.1],.agg #[.int .i64 x.2.1,.int .i64 x.2.2.1,.int .i64 x.2.2.2.1]]) (qwx l):=by
  have hl:l.length≤1000:=Nat.le_of_ble_eq_true h
  intro w η ⟨B,Bo,Bl⟩ hat hw
  obtain ⟨v,h1,h2⟩:=hat.cell 0 _ rfl
  have hlt:B<w.heap.size:=hat.lt
  obtain ⟨A,c,rfl,hS⟩:=qx1 (τ:=Riii) rfl (by decide) hw h2
  clear h2 hat h
  intro l0 J W hW hJ1 hJ2 hY h0
  have hB0:W.heap[B]?=w.heap[B]?:=hW.block _ hlt
  have hc0:W.cell? ⟨B,Bo,none⟩=some (.slice A l.length c):=(hW.cell (p:=⟨B,Bo+0,none⟩) hlt).trans h1
  have hF0:∀ k ob,η.fz k=some ob→W.heap[k]?=some ob:=fun k ob hk=>(hW.block _ (Array.getElem?_eq_some_iff.1 (hw k ob hk)).1).trans (hw k ob hk)
  have HS:=Lib.hid hS
  have HF0:=Lib.hid hF0
  have HW:=Lib.hid hw
  have HY:=Lib.hid hY
  have HJ1:=Lib.hid hJ1
  have HJ2:=Lib.hid hJ2
  have H0:=Lib.hid h0
  clear h1 hS hF0 hw hY hJ1 hJ2 hW hB0 hlt h0
  dsimp only
  refine callsIn_of_wp Tryz.func147 rfl trivial ?_ rfl
  simp only [Tryz.ntmps147,List.size_toArray,List.length_cons,List.length_nil,Nat.reduceAdd,Nat.reduceSub,Array.replicate_succ,Array.replicate_zero,List.push_toArray,List.append_toArray,List.nil_append,List.cons_append]
  gi_wp2
  gi_loopw [10] (fun i wr=>∃ (k:Nat) (T:Nat→Prop) (pre:List (Diii×Diii)),i=.int .i64 k∧k≤l.length∧wr.cell? ⟨B,Bo,none⟩=some (.slice A l.length c)∧(∀ j ob,η.fz j=some ob→wr.heap[j]?=some ob)∧pre++qwx (l.drop k)=qwx l∧J T pre wr) (fun i _=>l.length - (intOf i).toNat)
  case atStart=>exact ⟨0,_,[],rfl,Nat.zero_le _,hc0,HF0.out,rfl,H0.out⟩
  case round =>
    obtain ⟨k,T,pre,rfl,hk,hc,hF,hx,hj⟩:=hrel
    clear hc0 HF0 H0
    by_cases hlt:k<l.length
    · obtain ⟨wo, rfl⟩ : ∃ wo : World, wo = wr := ⟨_, rfl⟩
      obtain ⟨x,hxk⟩:∃ x,l[k]?=some x:=⟨_,List.getElem?_eq_getElem hlt⟩
      have hsl:=HS.out wo hF
      have hpos:0<l.length:=by omega
      obtain ⟨b,o,rfl,hb⟩:=hsl.at_ hpos
      obtain ⟨d0,d1,d2⟩:=el3 hsl hxk
      have hBl:B<wo.heap.size:=qx2 hc
      have hcV:(wo.alloc (.cells #[.int .i64 x.1,.int .i64 x.2.1,.int .i64 x.2.2.1] 79)).cell? ⟨B,Bo,none⟩=some (.slice (some ⟨b,o,none⟩) l.length c):=(World.cell?_of_block (a:=⟨B,Bo,none⟩) (((Bel.refl wo).alloc _).block _ hBl)).trans hc
      have hcap:l.length≤c:=hsl.1
      have hlt':(k:Int)<(l.length:Int):=by omega
      have e1:IntKind.i64.wrap ((k:Int)+1)=((k+1:Nat):Int):=by rw [IntWalk.i64_in _ (by omega)];omega
      have hV:Bel wo (wo.alloc (.cells #[.int .i64 x.1,.int .i64 x.2.1,.int .i64 x.2.2.1] 79)):=(Bel.refl wo).alloc _
      have hVs:(wo.alloc (.cells #[.int .i64 x.1,.int .i64 x.2.1,.int .i64 x.2.2.1] 79)).heap.size=wo.heap.size+1:=by simp
      have hVn:(wo.alloc (.cells #[.int .i64 x.1,.int .i64 x.2.1,.int .i64 x.2.2.1] 79)).heap[wo.heap.size]?=some (.cells #[.int .i64 x.1,.int .i64 x.2.1,.int .i64 x.2.2.1] 79):=World.alloc_heap_new _ _
      have hJV:=HJ2.out T pre wo _ hj hV
      have hFV:∀ j ob,η.fz j=some ob→(wo.alloc (.cells #[.int .i64 x.1,.int .i64 x.2.1,.int .i64 x.2.2.1] 79)).heap[j]?=some ob:=fun j ob hj=>by rw [hV.block j (Array.getElem?_eq_some_iff.1 (hF j ob hj)).1];exact hF j ob hj
      have hx0:pre++(((l.drop (k+1)).drop 0).map (fun q=>(x,q))++qwx (l.drop (k+1)))=qwx l:=by rw [← qwz hxk];exact hx
      have HX:=Lib.hid hx0
      have HFV:=Lib.hid hFV
      have HJV:=Lib.hid hJV
      have HXK:=Lib.hid hxk
      have HVN:=Lib.hid hVn
      have HVS:=Lib.hid hVs
      clear hx hF hj hsl hxk hx0 hFV hJV hV hVn hVs
      by_cases hck:c=k+1
      · have hn0 : l.length = k + 1 := by omega
        have hn0':=Lib.hid (show l.drop (k+1)=[] from List.drop_eq_nil_of_le (by omega))
        subst hck
        have z0:l.length - (k+1)=0:=by omega
        gi_wp2
        gi_loopw [21] (fun i wr=>i=.int .i64 0∧wr=wo.alloc (.cells #[.int .i64 x.1,.int .i64 x.2.1,.int .i64 x.2.2.1] 79)) (fun _ _=>0)
        case atStart=>exact ⟨rfl,rfl⟩
        case round =>
          obtain ⟨rfl,rfl⟩:=hrel
          gi_wp2
          go_roundw
          case rel=>exact ⟨k+1,_,pre,by go_num,by omega,hcV,HFV.out,by have:=HX.out;rw [List.drop_zero,hn0'.out] at this;rw [hn0'.out];exact this,HJV.out⟩
          case measure=>(first | (simp [intOf];done) | (simp [intOf];omega))
      · gi_wp2
        gi_loopw [21] (fun i wr2=>∃ (m:Nat) (T2:Nat→Prop) (pre2:List (Diii×Diii)),i=.int .i64 m∧m≤l.length - (k+1)∧wr2.cell? ⟨B,Bo,none⟩=some (.slice (some ⟨b,o,none⟩) l.length c)∧(∀ j ob,η.fz j=some ob→wr2.heap[j]?=some ob)∧pre2++(((l.drop (k+1)).drop m).map (fun q=>(x,q))++qwx (l.drop (k+1)))=qwx l∧J T2 pre2 wr2∧T2 wo.heap.size∧wr2.heap[wo.heap.size]?=some (.cells #[.int .i64 x.1,.int .i64 x.2.1,.int .i64 x.2.2.1] 79)) (fun i _=>(l.length - (k+1)) - (intOf i).toNat)
        case atStart=>exact ⟨0,_,pre,rfl,Nat.zero_le _,hcV,HFV.out,HX.out,HJV.out,.inr ⟨Nat.le_refl _,by rw [HVS.out];omega⟩,HVN.out⟩
        case round =>
          obtain ⟨m,T2,pre2,rfl,hm,hc2,hF2,hx2,hj2,hT2,hp2⟩:=hrel
          clear hcV HX HFV HJV HVN HVS
          by_cases hlm:m<l.length - (k+1)
          · obtain ⟨q, hqk⟩ : ∃ q, l[k + 1 + m]? = some q := ⟨_, List.getElem?_eq_getElem (by omega)⟩
            obtain ⟨d0',d1',d2'⟩:=el3 (HS.out _ hF2) hqk
            have a0:o+(k+1+m)*3=o+(k+1)*3+m*3:=by omega
            rw [a0] at d0' d1' d2'
            have hb2:b<wr.heap.size:=qx2 d0'
            have hBl2:B<wr.heap.size:=qx2 hc2
            have hPl2:wo.heap.size<wr.heap.size:=(Array.getElem?_eq_some_iff.1 hp2).1
            have hV:Bel wr (wr.alloc (.cells #[.int .i64 q.1,.int .i64 q.2.1,.int .i64 q.2.2.1] 79)):=(Bel.refl wr).alloc _
            have hcV2:(wr.alloc (.cells #[.int .i64 q.1,.int .i64 q.2.1,.int .i64 q.2.2.1] 79)).cell? ⟨B,Bo,none⟩=some (.slice (some ⟨b,o,none⟩) l.length c):=(World.cell?_of_block (a:=⟨B,Bo,none⟩) (hV.block _ hBl2)).trans hc2
            have hpV:(wr.alloc (.cells #[.int .i64 q.1,.int .i64 q.2.1,.int .i64 q.2.2.1] 79)).heap[wo.heap.size]?=some (.cells #[.int .i64 x.1,.int .i64 x.2.1,.int .i64 x.2.2.1] 79):=(hV.block _ hPl2).trans hp2
            have p0:(wr.alloc (.cells #[.int .i64 q.1,.int .i64 q.2.1,.int .i64 q.2.2.1] 79)).cell? ⟨wo.heap.size,0,none⟩=some (.int .i64 x.1):=by rw [qx3 hpV];rfl
            have p1:(wr.alloc (.cells #[.int .i64 q.1,.int .i64 q.2.1,.int .i64 q.2.2.1] 79)).cell? ⟨wo.heap.size,1,none⟩=some (.int .i64 x.2.1):=by rw [qx3 hpV];rfl
            have p2:(wr.alloc (.cells #[.int .i64 q.1,.int .i64 q.2.1,.int .i64 q.2.2.1] 79)).cell? ⟨wo.heap.size,2,none⟩=some (.int .i64 x.2.2.1):=by rw [qx3 hpV];rfl
            have hJV:=HJ2.out T2 pre2 wr _ hj2 hV
            rw [qx0 hqk] at hx2
            obtain ⟨fn,tmps,assign,body,hy,hR⟩:=HY.out _ pre2 (x,q) _ _ hx2.symm hJV
            have hlm':(m:Int)<((l.length - (k+1):Nat):Int):=by omega
            have HX2:=Lib.hid hx2
            have HF2:=Lib.hid hF2
            have HT2:=Lib.hid hT2
            have HV2:=Lib.hid hV
            have HPV:=Lib.hid hpV
            have HCV2:=Lib.hid hcV2
            clear hx2 hF2 hT2 hV hpV hJV hj2 hqk
            gi_wp2
            refine hR.mono ?_
            rintro e W3 ⟨rfl,hJ3,⟨hk3,hf3⟩,ht3⟩
            have hF3:∀ j ob,η.fz j=some ob→W3.heap[j]?=some ob:=fun j ob hj=>hf3 j ob hj (((HV2.out).block j (Array.getElem?_eq_some_iff.1 (HF2.out j ob hj)).1).trans (HF2.out j ob hj))
            have hc3:W3.cell? ⟨B,Bo,none⟩=some (.slice (some ⟨b,o,none⟩) l.length c):=(World.cell?_of_block (a:=⟨B,Bo,none⟩) hk3).trans HCV2.out
            have hp3:W3.heap[wo.heap.size]?=some (.cells #[.int .i64 x.1,.int .i64 x.2.1,.int .i64 x.2.2.1] 79):=(ht3 _ (.inl HT2.out)).trans HPV.out
            have HF3:=Lib.hid hF3
            have HP3:=Lib.hid hp3
            have HJ3:=Lib.hid hJ3
            clear hF3 hp3 hJ3 hf3 ht3 hk3
            gi_wp2
            go_roundw
            case rel=>exact ⟨m+1,_,pre2 ++ [(x,q)],by go_num,by omega,hc3,HF3.out,by rw [List.append_assoc];exact HX2.out,HJ3.out,.inl HT2.out,HP3.out⟩
            case measure=>(first | (simp [intOf];done) | (simp [intOf];omega))
          · obtain rfl : m = l.length - (k + 1) := by omega
            have HX2:=Lib.hid hx2
            have HF2:=Lib.hid hF2
            have HJ2':=Lib.hid hj2
            clear hx2 hF2 hj2 hlm
            gi_wp2
            go_roundw
            case rel=>exact ⟨k+1,T2,pre2,by go_num,by omega,hc2,HF2.out,by have:=HX2.out;rw [List.drop_drop,show k+1+(l.length - (k+1))=l.length by omega,List.drop_length] at this;exact this,HJ2'.out⟩
            case measure=>(first | (simp [intOf];done) | (simp [intOf];omega))
    · obtain rfl : k = l.length := by omega
      have HX:=Lib.hid hx
      have HF:=Lib.hid hF
      have HJ:=Lib.hid hj
      clear hx hF hj hlt
      gi_wp2
      go_end0
      exact ⟨⟨_,rfl⟩,_,by have:=HX.out;rw [List.drop_length,qwx,List.append_nil] at this;rw [← this];exact HJ.out⟩
end Go.Proofs.YtpfhgnccpiildaaGreat

namespace Go.Proofs.YtpfhgnccpiildaaGreat
open Go Go.Tx Go.Proofs.Tryz
set_option maxRecDepth 100000
set_option maxHeartbeats 0
abbrev qx5:List Pk:=[.row Riii true,.row Riii true]
abbrev qx6:Type:=Diii×Diii×Unit
abbrev qx7:Type:=Int×Int×Int
def qx8 (r:qx7):LV×List Ob:=(.tup [.agg [.int .i64 r.1,.int .i64 r.2.1],.int .i64 r.2.2],[])
def qx9 (F:qx6→Option qx7):Go.Tx.Spec:=⟨111,qx5,qx7,F,qx8⟩
abbrev qxa:Type:=(qop→Option qoq)×(qng→Option qnh)×Unit
def qxb (d:Nat):qxa:=(qou d,qnl d,())
def qxc (C:qxa):List Go.Tx.Spec:=[qos C.1,qnj C.2.1]
abbrev qxd:Type:=Int×Int×Int×Int×Int×Int
def qxe (v:qxd):St:=⟨[(0,.agg [i6 v.1,i6 v.2.1,i6 v.2.2.1]),(1,.agg [i6 v.2.2.2.1,i6 v.2.2.2.2.1,i6 v.2.2.2.2.2])],[]⟩
abbrev qxf:Type:=Int×Int×Int×Int×Int×Int×Int×Int
def qxg (v:qxf):St:=⟨[(2,.ptr 0 0),(3,.ptr 1 0),(4,.ptr 2 0)],[.cells [i6 v.1,i6 v.2.1,i6 v.2.2.1],.cells [i6 v.2.2.2.1,i6 v.2.2.2.2.1,i6 v.2.2.2.2.2.1],.cells [i6 v.2.2.2.2.2.2.1,i6 v.2.2.2.2.2.2.2]]⟩
def qxh (C:qxa) (v:qxd):Dt qxf:=(Dt.ret (v.1,v.2.1,v.2.2.1,v.2.2.2.1,v.2.2.2.2.1,v.2.2.2.2.2,(0:Int),(0:Int)))
abbrev q3yy {V Y:Type}:=@rg qxa V Y tysT (fun C=>(orc (qxc C))) 34
theorem qxi C v:q3yy (regO (qcy f111) 0) false (an [2,3,4]) qxe qxh qxg C v:=rgI (by kernel_rfl)
abbrev qxj:Type:=Int×Int×Int×Int×Int×Int×Int×Int×Int
def qxk (v:qxj):St:=⟨[(2,.ptr 0 0),(3,.ptr 1 0),(4,.ptr 2 0),(6,i6 v.1)],[.cells [i6 v.2.1,i6 v.2.2.1,i6 v.2.2.2.1],.cells [i6 v.2.2.2.2.1,i6 v.2.2.2.2.2.1,i6 v.2.2.2.2.2.2.1],.cells [i6 v.2.2.2.2.2.2.2.1,i6 v.2.2.2.2.2.2.2.2]]⟩
def qxl (C:qxa) (v:qxf):Dt qxj:=(Dt.bnd (C.1 ((v.1,v.2.1,v.2.2.1,()),(v.2.2.2.1,v.2.2.2.2.1,v.2.2.2.2.2.1,()),((0:Int),(1:Int),()),())) fun r1=>(Dt.ret (r1,v.1,v.2.1,v.2.2.1,v.2.2.2.1,v.2.2.2.2.1,v.2.2.2.2.2.1,v.2.2.2.2.2.2.1,v.2.2.2.2.2.2.2)))
theorem qxm C v:q3yy (regO (qcy f111) 1) false (an [2,3,4,6]) qxg qxl qxk C v:=rgI (by kernel_rfl)
abbrev qxn:Type:=Int×Bool×Int×Int×Int×Int×Int×Int×Int×Int
def qxo (v:qxn):St:=⟨[(2,.ptr 0 0),(3,.ptr 1 0),(4,.ptr 2 0),(6,i6 v.1),(12,.bool v.2.1)],[.cells [i6 v.2.2.1,i6 v.2.2.2.1,i6 v.2.2.2.2.1],.cells [i6 v.2.2.2.2.2.1,i6 v.2.2.2.2.2.2.1,i6 v.2.2.2.2.2.2.2.1],.cells [i6 v.2.2.2.2.2.2.2.2.1,i6 v.2.2.2.2.2.2.2.2.2]]⟩
def qxp (C:qxa) (v:qxj):Dt qxn:=(Dt.ret (v.1,(v.1!=(0:Int)),v.2.1,v.2.2.1,v.2.2.2.1,v.2.2.2.2.1,v.2.2.2.2.2.1,v.2.2.2.2.2.2.1,v.2.2.2.2.2.2.2.1,v.2.2.2.2.2.2.2.2))
theorem qxq C v:q3yy (regO (qcy f111) 2) false (an [2,3,4,6,12]) qxk qxp qxo C v:=rgI (by kernel_rfl)
abbrev qxr:Type:=Int×Int×Int
def qxs (v:qxr):St:=⟨[(4,.ptr 0 0),(5,i6 v.1)],[.cells [i6 v.2.1,i6 v.2.2]]⟩
def qxt (C:qxa) (v:qxn):Dt qxr:=(Dt.ret (v.1,(0:Int),(0:Int)))
theorem qxu C v:q3yy (regO (qcy f111) 3) false (an [4,5]) qxo qxt qxs C v:=rgI (by kernel_rfl)
abbrev qxv:Type:=Bool×Int×Int×Int×Int×Int×Int×Int×Int
def qxw (v:qxv):St:=⟨[(2,.ptr 0 0),(3,.ptr 1 0),(4,.ptr 2 0),(19,.bool v.1)],[.cells [i6 v.2.1,i6 v.2.2.1,i6 v.2.2.2.1],.cells [i6 v.2.2.2.2.1,i6 v.2.2.2.2.2.1,i6 v.2.2.2.2.2.2.1],.cells [i6 v.2.2.2.2.2.2.2.1,i6 v.2.2.2.2.2.2.2.2]]⟩
def qxx (C:qxa) (v:qxn):Dt qxv:=(Dt.ret ((v.2.2.2.2.1==v.2.2.2.2.2.2.2.1),v.2.2.1,v.2.2.2.1,v.2.2.2.2.1,v.2.2.2.2.2.1,v.2.2.2.2.2.2.1,v.2.2.2.2.2.2.2.1,v.2.2.2.2.2.2.2.2.1,v.2.2.2.2.2.2.2.2.2))
theorem qxy C v:q3yy (regO (qcy f111) 4) false (an [2,3,4,19]) qxo qxx qxw C v:=rgI (by kernel_rfl)
def qxz (C:qxa) (v:qxv):Dt qxr:=(Dt.ret ((6:Int),(0:Int),(0:Int)))
theorem qy0 C v:q3yy (regO (qcy f111) 5) false (an [4,5]) qxw qxz qxs C v:=rgI (by kernel_rfl)
def qy1 (C:qxa) (v:qxv):Dt qxr:=(Dt.bnd (C.2.1 (((IntKind.wrap .i64 (v.2.2.1 - v.2.2.2.2.2.1)),()),((IntKind.wrap .i64 (v.2.2.2.2.2.2.1 - v.2.2.2.1)),()),())) fun r1=>(Dt.ret (r1.2.2,r1.1,r1.2.1)))
theorem qy2 C v:q3yy (regO (qcy f111) 6) false (an [4,5]) qxw qy1 qxs C v:=rgI (by kernel_rfl)
def qy3 (d:Nat) (x:qx6):Option qx7 :=
 (qxh (qxb d) (x.1.1,x.1.2.1,x.1.2.2.1,x.2.1.1,x.2.1.2.1,x.2.1.2.2.1)).eval fun y0 =>
 (qxl (qxb d) y0).eval fun y1 =>
 (qxp (qxb d) y1).eval fun y2 =>
 bif y2.2.1 then ((qxt (qxb d) y2).eval fun y3 =>
 some (y3.2.1,y3.2.2,y3.1)) else ((qxx (qxb d) y2).eval fun y4 =>
 bif y4.1 then ((qxz (qxb d) y4).eval fun y5 =>
 some (y5.2.1,y5.2.2,y5.1)) else ((qy1 (qxb d) y4).eval fun y6 =>
 some (y6.2.1,y6.2.2,y6.1)))
theorem qy4 (d:Nat):COK prog (qx9 (qy3 d)):=by
 have hm:prog.follows .mixedOrders=true:=qjt
 have hT:=tys
 have hC0:OrcOK prog (orc (qxc (qxb d))):=qcs (by
  intro S hS
  simp only [qxc,List.mem_cons,List.not_mem_nil,or_false] at hS
  rcases hS with rfl | rfl
  · exact qow d
  · exact qnn d)
 have hC:OrcOK prog (orc (qxc (qxb d))):=hC0
 refine q8e (c:=qcy f111) (fn:=f111) hT (by kernel_rfl) (by kernel_rfl) (by decide) fun x r h w0 φ0 Q hend=>?_
 replace h:qy3 d x=some r:=h
 unfold qy3 at h
 show Run prog w0 φ0 34 (qcy f111) ⟨[(0,.agg [.int .i64 x.1.1,.int .i64 x.1.2.1,.int .i64 x.1.2.2.1]),(1,.agg [.int .i64 x.2.1.1,.int .i64 x.2.1.2.1,.int .i64 x.2.1.2.2.1])],[]⟩ Q
 refine q3yx hm hT hC (qxi (qxb d) (x.1.1,x.1.2.1,x.1.2.2.1,x.2.1.1,x.2.1.2.1,x.2.1.2.2.1)) h fun y0 h=>?_
 refine q7y ?_
 refine q3yx hm hT hC (qxm (qxb d) y0) h fun y1 h=>?_
 refine q3yx hm hT hC (qxq (qxb d) y1) h fun y2 h=>?_
 refine q82 (v:=y2.2.1) (by kernel_rfl) h ?_ ?_
 ·
  intro h
  refine q3yx hm hT hC (qxu (qxb d) y2) h fun y3 h=>?_
  refine q7x (q7m ?_)
  cases h
  exact (hend _ (by kernel_rfl)).2
 ·
  intro h
  refine q7u (q7k (q7y ?_))
  refine q3yx hm hT hC (qxy (qxb d) y2) h fun y4 h=>?_
  refine q82 (v:=y4.1) (by kernel_rfl) h ?_ ?_
  ·
   intro h
   refine q3yx hm hT hC (qy0 (qxb d) y4) h fun y5 h=>?_
   refine q7x (q7m ?_)
   cases h
   exact (hend _ (by kernel_rfl)).2
  ·
   intro h
   refine q7u (q7k ?_)
   refine q3yx hm hT hC (qy2 (qxb d) y4) h fun y6 h=>?_
   refine q7x ?_
   cases h
   exact (hend _ (by kernel_rfl)).2
abbrev qy5:List Pk:=[.row Rii true,.row Rii true]
abbrev qy6:Type:=Dii×Dii×Unit
abbrev qy7:Type:=Int
def qy8 (r:qy7):LV×List Ob:=(.int .i64 r,[])
def qy9 (F:qy6→Option qy7):Go.Tx.Spec:=⟨118,qy5,qy7,F,qy8⟩
abbrev qya:Type:=(qmy→Option qmz)×Unit
def qyb (d:Nat):qya:=(qn3 d,())
def qyc (C:qya):List Go.Tx.Spec:=[qn1 C.1]
abbrev qyd:Type:=Int×Int×Int×Int
def qye (v:qyd):St:=⟨[(0,.agg [i6 v.1,i6 v.2.1]),(1,.agg [i6 v.2.2.1,i6 v.2.2.2])],[]⟩
abbrev qyf:Type:=Int×Int×Int×Int
def qyg (v:qyf):St:=⟨[(2,.ptr 0 0),(3,.ptr 1 0)],[.cells [i6 v.1,i6 v.2.1],.cells [i6 v.2.2.1,i6 v.2.2.2]]⟩
def qyh (C:qya) (v:qyd):Dt qyf:=(Dt.ret (v.1,v.2.1,v.2.2.1,v.2.2.2))
abbrev q3yz {V Y:Type}:=@rg qya V Y tysT (fun C=>(orc (qyc C))) 10
theorem qyi C v:q3yz (regO (qcy f118) 0) false (an [2,3]) qye qyh qyg C v:=rgI (by kernel_rfl)
abbrev qyj:Type:=Int
def qyk (v:qyj):St:=⟨[(4,i6 v)],[]⟩
def qyl (C:qya) (v:qyf):Dt qyj:=(Dt.bnd (C.1 ((v.1,v.2.1,()),())) fun r1=>(Dt.bnd (C.1 ((v.2.2.1,v.2.2.2,()),())) fun r2=>(Dt.ret (tmax r1 r2))))
theorem qym C v:q3yz (regO (qcy f118) 1) true [(4,.any)] qyg qyl qyk C v:=rgI (by kernel_rfl)
def qyn (d:Nat) (x:qy6):Option qy7 :=
 (qyh (qyb d) (x.1.1,x.1.2.1,x.2.1.1,x.2.1.2.1)).eval fun y0 =>
 (qyl (qyb d) y0).eval fun y1 =>
 some y1
theorem qyo (d:Nat):COK prog (qy9 (qyn d)):=by
 have hm:prog.follows .mixedOrders=true:=qjt
 have hT:=tys
 have hC0:OrcOK prog (orc (qyc (qyb d))):=qcs (by
  intro S hS
  simp only [qyc,List.mem_cons,List.not_mem_nil,or_false] at hS
  subst hS;exact qn5 d)
 have hC:OrcOK prog (orc (qyc (qyb d))):=hC0
 refine q8e (c:=qcy f118) (fn:=f118) hT (by kernel_rfl) (by kernel_rfl) (by decide) fun x r h w0 φ0 Q hend=>?_
 replace h:qyn d x=some r:=h
 unfold qyn at h
 show Run prog w0 φ0 10 (qcy f118) ⟨[(0,.agg [.int .i64 x.1.1,.int .i64 x.1.2.1]),(1,.agg [.int .i64 x.2.1.1,.int .i64 x.2.1.2.1])],[]⟩ Q
 refine q3yx hm hT hC (qyi (qyb d) (x.1.1,x.1.2.1,x.2.1.1,x.2.1.2.1)) h fun y0 h=>?_
 refine q3yx hm hT hC (qym (qyb d) y0) h fun y1 h=>?_
 refine q7x ?_
 cases h
 exact (hend _ (by kernel_rfl)).2
abbrev qyp:List Pk:=[.row Ri false]
abbrev qyq:Type:=Di×Unit
abbrev qyr:Type:=Bool
def qys (r:qyr):LV×List Ob:=(.bool r,[])
def qyt (F:qyq→Option qyr):Go.Tx.Spec:=⟨153,qyp,qyr,F,qys⟩
abbrev qyu:Type:=Unit
def qyv (_d:Nat):qyu:=()
def qyw (C:qyu):List Go.Tx.Spec:=[]
abbrev qyx:Type:=Int
def qyy (v:qyx):St:=⟨[(0,i6 v)],[]⟩
def qyz (C:qyu) (v:qyx):Dt qyx:=(Dt.ret v)
abbrev q3z0 {V Y:Type}:=@rg qyu V Y tysT (fun C=>(orc (qyw C))) 6
theorem qz0 C v:q3z0 (regO (qcy f153) 0) false [(0,.any)] qyy qyz qyy C v:=rgI (by kernel_rfl)
abbrev qz1:Type:=Bool
def qz2 (v:qz1):St:=⟨[(2,.bool v)],[]⟩
def qz3 (C:qyu) (v:qyx):Dt qz1:=(Dt.ret (v!=v))
theorem qz4 C v:q3z0 (regO (qcy f153) 1) false [(2,.any)] qyy qz3 qz2 C v:=rgI (by kernel_rfl)
def qz5 (d:Nat) (x:qyq):Option qyr :=
 (qyz (qyv d) x.1.1).eval fun y0 =>
 (qz3 (qyv d) y0).eval fun y1 =>
 some y1
theorem qz6 (d:Nat):COK prog (qyt (qz5 d)):=by
 have hm:prog.follows .mixedOrders=true:=qjt
 have hT:=tys
 have hC0:OrcOK prog (orc (qyw (qyv d))):=qcs (by
  intro S hS
  simp only [qyw,List.mem_cons,List.not_mem_nil,or_false] at hS
  all_goals first | cases hS | exact hS.elim)
 have hC:OrcOK prog (orc (qyw (qyv d))):=hC0
 refine q8e (c:=qcy f153) (fn:=f153) hT (by kernel_rfl) (by kernel_rfl) (by decide) fun x r h w0 φ0 Q hend=>?_
 replace h:qz5 d x=some r:=h
 unfold qz5 at h
 show Run prog w0 φ0 6 (qcy f153) ⟨[(0,.int .i64 x.1.1)],[]⟩ Q
 refine q3yx hm hT hC (qz0 (qyv d) x.1.1) h fun y0 h=>?_
 refine q3yx hm hT hC (qz4 (qyv d) y0) h fun y1 h=>?_
 refine q7x ?_
 cases h
 exact (hend _ (by kernel_rfl)).2
abbrev qz7:List Pk:=[.row Ri false,.row Ri false]
abbrev qz8:Type:=Di×Di×Unit
abbrev qz9:Type:=Int
def qza (r:qz9):LV×List Ob:=(.int .i64 r,[])
def qzb (F:qz8→Option qz9):Go.Tx.Spec:=⟨126,qz7,qz9,F,qza⟩
abbrev qzc:Type:=(qyq→Option qyr)×Unit
def qzd (d:Nat):qzc:=(qz5 d,())
def qze (C:qzc):List Go.Tx.Spec:=[qyt C.1]
abbrev qzf:Type:=Int×Int
def qzg (v:qzf):St:=⟨[(0,i6 v.1),(1,i6 v.2)],[]⟩
def qzh (C:qzc) (v:qzf):Dt qzf:=(Dt.ret (v.1,v.2))
abbrev q3z1 {V Y:Type}:=@rg qzc V Y tysT (fun C=>(orc (qze C))) 20
theorem qzi C v:q3z1 (regO (qcy f126) 0) false (an [0,1]) qzg qzh qzg C v:=rgI (by kernel_rfl)
abbrev qzj:Type:=Int×Int×Bool
def qzk (v:qzj):St:=⟨[(0,i6 v.1),(1,i6 v.2.1),(5,.bool v.2.2)],[]⟩
def qzl (C:qzc) (v:qzf):Dt qzj:=(Dt.bnd (C.1 ((v.1,()),())) fun r1=>(Dt.ret (v.1,v.2,r1)))
theorem qzm C v:q3z1 (regO (qcy f126) 1) false (an [0,1,5]) qzg qzl qzk C v:=rgI (by kernel_rfl)
abbrev qzn:Type:=Int×Int×Bool×Bool
def qzo (v:qzn):St:=⟨[(0,i6 v.1),(1,i6 v.2.1),(5,.bool v.2.2.1),(6,.bool v.2.2.2)],[]⟩
def qzp (C:qzc) (v:qzj):Dt qzn:=(Dt.bnd (C.1 ((v.2.1,()),())) fun r1=>(Dt.ret (v.1,v.2.1,v.2.2,r1)))
theorem qzq C v:q3z1 (regO (qcy f126) 2) false (an [0,1,5,6]) qzk qzp qzo C v:=rgI (by kernel_rfl)
abbrev qzr:Type:=Int×Int×Bool×Bool
def qzs (v:qzr):St:=⟨[(0,i6 v.1),(1,i6 v.2.1),(6,.bool v.2.2.1),(11,.bool v.2.2.2)],[]⟩
def qzt (C:qzc) (v:qzn):Dt qzr:=(Dt.ret (v.1,v.2.1,v.2.2.2,v.2.2.1))
theorem qzu C v:q3z1 (regO (qcy f126) 3) false (an [0,1,6,11]) qzo qzt qzs C v:=rgI (by kernel_rfl)
abbrev qzv:Type:=Bool
def qzw (v:qzv):St:=⟨[(12,.bool v)],[]⟩
def qzx (C:qzc) (v:qzr):Dt qzv:=(Dt.ret v.2.2.1)
theorem qzy C v:q3z1 (regO (qcy f126) 4) false [(12,.any)] qzs qzx qzw C v:=rgI (by kernel_rfl)
abbrev qzz:Type:=Int
def q100 (v:qzz):St:=⟨[(4,i6 v)],[]⟩
def q101 (C:qzc) (v:qzv):Dt qzz:=(Dt.ret (0:Int))
theorem q102 C v:q3z1 (regO (qcy f126) 5) false [(4,.any)] qzw q101 q100 C v:=rgI (by kernel_rfl)
def q103 (C:qzc) (v:qzv):Dt qzz:=(Dt.ret (-1:Int))
theorem q104 C v:q3z1 (regO (qcy f126) 6) false [(4,.any)] qzw q103 q100 C v:=rgI (by kernel_rfl)
abbrev q105:Type:=Int×Int×Bool
def q106 (v:q105):St:=⟨[(0,i6 v.1),(1,i6 v.2.1),(13,.bool v.2.2)],[]⟩
def q107 (C:qzc) (v:qzr):Dt q105:=(Dt.ret (v.1,v.2.1,v.2.2.1))
theorem q108 C v:q3z1 (regO (qcy f126) 7) false (an [0,1,13]) qzs q107 q106 C v:=rgI (by kernel_rfl)
def q109 (C:qzc) (v:q105):Dt qzz:=(Dt.ret (1:Int))
theorem q10a C v:q3z1 (regO (qcy f126) 8) false [(4,.any)] q106 q109 q100 C v:=rgI (by kernel_rfl)
abbrev q10b:Type:=Int×Int×Bool
def q10c (v:q10b):St:=⟨[(0,i6 v.1),(1,i6 v.2.1),(16,.bool v.2.2)],[]⟩
def q10d (C:qzc) (v:q105):Dt q10b:=(Dt.ret (v.1,v.2.1,(decide (v.1<v.2.1))))
theorem q10e C v:q3z1 (regO (qcy f126) 9) false (an [0,1,16]) q106 q10d q10c C v:=rgI (by kernel_rfl)
def q10f (C:qzc) (v:q10b):Dt qzz:=(Dt.ret (-1:Int))
theorem q10g C v:q3z1 (regO (qcy f126) 10) false [(4,.any)] q10c q10f q100 C v:=rgI (by kernel_rfl)
abbrev q10h:Type:=Bool
def q10i (v:q10h):St:=⟨[(19,.bool v)],[]⟩
def q10j (C:qzc) (v:q10b):Dt q10h:=(Dt.ret (decide (v.1 > v.2.1)))
theorem q10k C v:q3z1 (regO (qcy f126) 11) false [(19,.any)] q10c q10j q10i C v:=rgI (by kernel_rfl)
def q10l (C:qzc) (v:q10h):Dt qzz:=(Dt.ret (1:Int))
theorem q10m C v:q3z1 (regO (qcy f126) 12) false [(4,.any)] q10i q10l q100 C v:=rgI (by kernel_rfl)
def q10n (C:qzc) (v:q10h):Dt qzz:=(Dt.ret (0:Int))
theorem q10o C v:q3z1 (regO (qcy f126) 13) false [(4,.any)] q10i q10n q100 C v:=rgI (by kernel_rfl)
def q10p (d:Nat) (x:qz8):Option qz9 :=
 (qzh (qzd d) (x.1.1,x.2.1.1)).eval fun y0 =>
 (qzl (qzd d) y0).eval fun y1 =>
 (qzp (qzd d) y1).eval fun y2 =>
 (qzt (qzd d) y2).eval fun y3 =>
 bif y3.2.2.2 then ((qzx (qzd d) y3).eval fun y4 =>
 bif y4 then ((q101 (qzd d) y4).eval fun y5 =>
 some y5) else ((q103 (qzd d) y4).eval fun y6 =>
 some y6)) else ((q107 (qzd d) y3).eval fun y7 =>
 bif y7.2.2 then ((q109 (qzd d) y7).eval fun y8 =>
 some y8) else ((q10d (qzd d) y7).eval fun y9 =>
 bif y9.2.2 then ((q10f (qzd d) y9).eval fun y10 =>
 some y10) else ((q10j (qzd d) y9).eval fun y11 =>
 bif y11 then ((q10l (qzd d) y11).eval fun y12 =>
 some y12) else ((q10n (qzd d) y11).eval fun y13 =>
 some y13))))
theorem q10q (d:Nat):COK prog (qzb (q10p d)):=by
 have hm:prog.follows .mixedOrders=true:=qjt
 have hT:=tys
 have hC0:OrcOK prog (orc (qze (qzd d))):=qcs (by
  intro S hS
  simp only [qze,List.mem_cons,List.not_mem_nil,or_false] at hS
  subst hS;exact qz6 d)
 have hC:OrcOK prog (orc (qze (qzd d))):=hC0
 refine q8e (c:=qcy f126) (fn:=f126) hT (by kernel_rfl) (by kernel_rfl) (by decide) fun x r h w0 φ0 Q hend=>?_
 replace h:q10p d x=some r:=h
 unfold q10p at h
 show Run prog w0 φ0 20 (qcy f126) ⟨[(0,.int .i64 x.1.1),(1,.int .i64 x.2.1.1)],[]⟩ Q
 refine q3yx hm hT hC (qzi (qzd d) (x.1.1,x.2.1.1)) h fun y0 h=>?_
 refine q3yx hm hT hC (qzm (qzd d) y0) h fun y1 h=>?_
 refine q3yx hm hT hC (qzq (qzd d) y1) h fun y2 h=>?_
 refine q7y ?_
 refine q3yx hm hT hC (qzu (qzd d) y2) h fun y3 h=>?_
 refine q82 (v:=y3.2.2.2) (by kernel_rfl) h ?_ ?_
 ·
  intro h
  refine q7y ?_
  refine q3yx hm hT hC (qzy (qzd d) y3) h fun y4 h=>?_
  refine q82 (v:=y4) (by kernel_rfl) h ?_ ?_
  ·
   intro h
   refine q3yx hm hT hC (q102 (qzd d) y4) h fun y5 h=>?_
   refine q7x (q7m (q7m ?_))
   cases h
   exact (hend _ (by kernel_rfl)).2
  ·
   intro h
   refine q7u (q7k ?_)
   refine q3yx hm hT hC (q104 (qzd d) y4) h fun y6 h=>?_
   refine q7x (q7m ?_)
   cases h
   exact (hend _ (by kernel_rfl)).2
 ·
  intro h
  refine q7u (q7k (q7y ?_))
  refine q3yx hm hT hC (q108 (qzd d) y3) h fun y7 h=>?_
  refine q82 (v:=y7.2.2) (by kernel_rfl) h ?_ ?_
  ·
   intro h
   refine q3yx hm hT hC (q10a (qzd d) y7) h fun y8 h=>?_
   refine q7x (q7m ?_)
   cases h
   exact (hend _ (by kernel_rfl)).2
  ·
   intro h
   refine q7u (q7k (q7y ?_))
   refine q3yx hm hT hC (q10e (qzd d) y7) h fun y9 h=>?_
   refine q82 (v:=y9.2.2) (by kernel_rfl) h ?_ ?_
   ·
    intro h
    refine q3yx hm hT hC (q10g (qzd d) y9) h fun y10 h=>?_
    refine q7x (q7m ?_)
    cases h
    exact (hend _ (by kernel_rfl)).2
   ·
    intro h
    refine q7u (q7k (q7y ?_))
    refine q3yx hm hT hC (q10k (qzd d) y9) h fun y11 h=>?_
    refine q82 (v:=y11) (by kernel_rfl) h ?_ ?_
    ·
     intro h
     refine q3yx hm hT hC (q10m (qzd d) y11) h fun y12 h=>?_
     refine q7x (q7m ?_)
     cases h
     exact (hend _ (by kernel_rfl)).2
    ·
     intro h
     refine q7u (q7k ?_)
     refine q3yx hm hT hC (q10o (qzd d) y11) h fun y13 h=>?_
     refine q7x ?_
     cases h
     exact (hend _ (by kernel_rfl)).2
abbrev q10r:List Pk:=[.row Ri false]
abbrev q10s:Type:=Di×Unit
abbrev q10t:Type:=Int
def q10u (r:q10t):LV×List Ob:=(.int .u64 r,[])
def q10v (F:q10s→Option q10t):Go.Tx.Spec:=⟨125,q10r,q10t,F,q10u⟩
abbrev q10w:Type:=Unit
def q10x (_d:Nat):q10w:=()
def q10y (C:q10w):List Go.Tx.Spec:=[]
abbrev q10z:Type:=Int
def q110 (v:q10z):St:=⟨[(0,i6 v)],[]⟩
def q111 (C:q10w) (v:q10z):Dt q10z:=(Dt.ret v)
abbrev q3z2 {V Y:Type}:=@rg q10w V Y tysT (fun C=>(orc (q10y C))) 10
theorem q112 C v:q3z2 (regO (qcy f125) 0) false [(0,.any)] q110 q111 q110 C v:=rgI (by kernel_rfl)
abbrev q113:Type:=Int×Bool
def q114 (v:q113):St:=⟨[(0,i6 v.1),(4,.bool v.2)],[]⟩
def q115 (C:q10w) (v:q10z):Dt q113:=(Dt.ret (v,(decide (v<(0:Int)))))
theorem q116 C v:q3z2 (regO (qcy f125) 1) false (an [0,4]) q110 q115 q114 C v:=rgI (by kernel_rfl)
abbrev q117:Type:=Int
def q118 (v:q117):St:=⟨[(2,u6 v)],[]⟩
def q119 (C:q10w) (v:q113):Dt q117:=(Dt.ret (IntKind.wrap .u64 (0 - (IntKind.wrap .u64 v.1))))
theorem q11a C v:q3z2 (regO (qcy f125) 2) false [(2,.any)] q114 q119 q118 C v:=rgI (by kernel_rfl)
def q11b (C:q10w) (v:q113):Dt q117:=(Dt.ret (IntKind.wrap .u64 v.1))
theorem q11c C v:q3z2 (regO (qcy f125) 3) false [(2,.any)] q114 q11b q118 C v:=rgI (by kernel_rfl)
def q11d (d:Nat) (x:q10s):Option q10t :=
 (q111 (q10x d) x.1.1).eval fun y0 =>
 (q115 (q10x d) y0).eval fun y1 =>
 bif y1.2 then ((q119 (q10x d) y1).eval fun y2 =>
 some y2) else ((q11b (q10x d) y1).eval fun y3 =>
 some y3)
theorem q11e (d:Nat):COK prog (q10v (q11d d)):=by
 have hm:prog.follows .mixedOrders=true:=qjt
 have hT:=tys
 have hC0:OrcOK prog (orc (q10y (q10x d))):=qcs (by
  intro S hS
  simp only [q10y,List.mem_cons,List.not_mem_nil,or_false] at hS
  all_goals first | cases hS | exact hS.elim)
 have hC:OrcOK prog (orc (q10y (q10x d))):=hC0
 refine q8e (c:=qcy f125) (fn:=f125) hT (by kernel_rfl) (by kernel_rfl) (by decide) fun x r h w0 φ0 Q hend=>?_
 replace h:q11d d x=some r:=h
 unfold q11d at h
 show Run prog w0 φ0 10 (qcy f125) ⟨[(0,.int .i64 x.1.1)],[]⟩ Q
 refine q3yx hm hT hC (q112 (q10x d) x.1.1) h fun y0 h=>?_
 refine q7y ?_
 refine q3yx hm hT hC (q116 (q10x d) y0) h fun y1 h=>?_
 refine q82 (v:=y1.2) (by kernel_rfl) h ?_ ?_
 ·
  intro h
  refine q3yx hm hT hC (q11a (q10x d) y1) h fun y2 h=>?_
  refine q7x (q7m ?_)
  cases h
  exact (hend _ (by kernel_rfl)).2
 ·
  intro h
  refine q7u (q7k ?_)
  refine q3yx hm hT hC (q11c (q10x d) y1) h fun y3 h=>?_
  refine q7x ?_
  cases h
  exact (hend _ (by kernel_rfl)).2
abbrev q11f:List Pk:=[.row Ri false,.row Ri false]
abbrev q11g:Type:=Di×Di×Unit
abbrev q11h:Type:=Bool×Int×Int
def q11i (r:q11h):LV×List Ob:=(.agg [.bool r.1,.int .u64 r.2.1,.int .u64 r.2.2],[])
def q11j (F:q11g→Option q11h):Go.Tx.Spec:=⟨121,q11f,q11h,F,q11i⟩
abbrev q11k:Type:=(qmg→Option qmh)×(q10s→Option q10t)×Unit
def q11l (d:Nat):q11k:=(qml d,q11d d,())
def q11m (C:q11k):List Go.Tx.Spec:=[qmj C.1,q10v C.2.1]
abbrev q11n:Type:=Int×Int
def q11o (v:q11n):St:=⟨[(0,i6 v.1),(1,i6 v.2)],[]⟩
abbrev q11p:Type:=Int×Int×Bool×Int×Int
def q11q (v:q11p):St:=⟨[(0,i6 v.1),(1,i6 v.2.1),(4,.ptr 0 0)],[.cells [.bool v.2.2.1,u6 v.2.2.2.1,u6 v.2.2.2.2]]⟩
def q11r (C:q11k) (v:q11n):Dt q11p:=(Dt.ret (v.1,v.2,false,(0:Int),(0:Int)))
abbrev q3z3 {V Y:Type}:=@rg q11k V Y tysT (fun C=>(orc (q11m C))) 23
theorem q11s C v:q3z3 (regO (qcy f121) 0) false (an [0,1,4]) q11o q11r q11q C v:=rgI (by kernel_rfl)
abbrev q11t:Type:=Int×Int×Int×Int×Bool×Int×Int
def q11u (v:q11t):St:=⟨[(0,i6 v.1),(1,i6 v.2.1),(4,.ptr 0 0),(5,u6 v.2.2.1),(6,u6 v.2.2.2.1)],[.cells [.bool v.2.2.2.2.1,u6 v.2.2.2.2.2.1,u6 v.2.2.2.2.2.2]]⟩
def q11v (C:q11k) (v:q11p):Dt q11t:=(Dt.bnd (C.2.1 ((v.1,()),())) fun r1=>(Dt.bnd (C.2.1 ((v.2.1,()),())) fun r2=>(Dt.bnd (C.1 ((r1,()),(r2,()),())) fun r3=>(Dt.ret (v.1,v.2.1,r3.1,r3.2,v.2.2.1,v.2.2.2.1,v.2.2.2.2)))))
theorem q11w C v:q3z3 (regO (qcy f121) 1) false (an [0,1,4,5,6]) q11q q11v q11u C v:=rgI (by kernel_rfl)
abbrev q11x:Type:=Bool×Int×Int
def q11y (v:q11x):St:=⟨[(4,.ptr 0 0)],[.cells [.bool v.1,u6 v.2.1,u6 v.2.2]]⟩
def q11z (C:q11k) (v:q11t):Dt q11x:=(Dt.ret ((!((decide (v.1<(0:Int)))==(decide (v.2.1<(0:Int))))),v.2.2.1,v.2.2.2.1))
theorem q120 C v:q3z3 (regO (qcy f121) 2) false [(4,.any)] q11u q11z q11y C v:=rgI (by kernel_rfl)
def q121 (d:Nat) (x:q11g):Option q11h :=
 (q11r (q11l d) (x.1.1,x.2.1.1)).eval fun y0 =>
 (q11v (q11l d) y0).eval fun y1 =>
 (q11z (q11l d) y1).eval fun y2 =>
 some y2
theorem q122 (d:Nat):COK prog (q11j (q121 d)):=by
 have hm:prog.follows .mixedOrders=true:=qjt
 have hT:=tys
 have hC0:OrcOK prog (orc (q11m (q11l d))):=qcs (by
  intro S hS
  simp only [q11m,List.mem_cons,List.not_mem_nil,or_false] at hS
  rcases hS with rfl | rfl
  · exact qmn d
  · exact q11e d)
 have hC:OrcOK prog (orc (q11m (q11l d))):=hC0
 refine q8e (c:=qcy f121) (fn:=f121) hT (by kernel_rfl) (by kernel_rfl) (by decide) fun x r h w0 φ0 Q hend=>?_
 replace h:q121 d x=some r:=h
 unfold q121 at h
 show Run prog w0 φ0 23 (qcy f121) ⟨[(0,.int .i64 x.1.1),(1,.int .i64 x.2.1.1)],[]⟩ Q
 refine q3yx hm hT hC (q11s (q11l d) (x.1.1,x.2.1.1)) h fun y0 h=>?_
 refine q3yx hm hT hC (q11w (q11l d) y0) h fun y1 h=>?_
 refine q3yx hm hT hC (q120 (q11l d) y1) h fun y2 h=>?_
 refine q7x ?_
 cases h
 exact (hend _ (by kernel_rfl)).2
abbrev q123:List Pk:=[.row Ru false]
abbrev q124:Type:=Du×Unit
abbrev q125:Type:=Bool
def q126 (r:q125):LV×List Ob:=(.bool r,[])
def q127 (F:q124→Option q125):Go.Tx.Spec:=⟨180,q123,q125,F,q126⟩
abbrev q128:Type:=Unit
def q129 (_d:Nat):q128:=()
def q12a (C:q128):List Go.Tx.Spec:=[]
abbrev q12b:Type:=Int
def q12c (v:q12b):St:=⟨[(0,u6 v)],[]⟩
def q12d (C:q128) (v:q12b):Dt q12b:=(Dt.ret v)
abbrev q3z4 {V Y:Type}:=@rg q128 V Y tysT (fun C=>(orc (q12a C))) 6
theorem q12e C v:q3z4 (regO (qcy f180) 0) false [(0,.any)] q12c q12d q12c C v:=rgI (by kernel_rfl)
abbrev q12f:Type:=Bool
def q12g (v:q12f):St:=⟨[(2,.bool v)],[]⟩
def q12h (C:q128) (v:q12b):Dt q12f:=(Dt.ret (v!=v))
theorem q12i C v:q3z4 (regO (qcy f180) 1) false [(2,.any)] q12c q12h q12g C v:=rgI (by kernel_rfl)
def q12j (d:Nat) (x:q124):Option q125 :=
 (q12d (q129 d) x.1.1).eval fun y0 =>
 (q12h (q129 d) y0).eval fun y1 =>
 some y1
theorem q12k (d:Nat):COK prog (q127 (q12j d)):=by
 have hm:prog.follows .mixedOrders=true:=qjt
 have hT:=tys
 have hC0:OrcOK prog (orc (q12a (q129 d))):=qcs (by
  intro S hS
  simp only [q12a,List.mem_cons,List.not_mem_nil,or_false] at hS
  all_goals first | cases hS | exact hS.elim)
 have hC:OrcOK prog (orc (q12a (q129 d))):=hC0
 refine q8e (c:=qcy f180) (fn:=f180) hT (by kernel_rfl) (by kernel_rfl) (by decide) fun x r h w0 φ0 Q hend=>?_
 replace h:q12j d x=some r:=h
 unfold q12j at h
 show Run prog w0 φ0 6 (qcy f180) ⟨[(0,.int .u64 x.1.1)],[]⟩ Q
 refine q3yx hm hT hC (q12e (q129 d) x.1.1) h fun y0 h=>?_
 refine q3yx hm hT hC (q12i (q129 d) y0) h fun y1 h=>?_
 refine q7x ?_
 cases h
 exact (hend _ (by kernel_rfl)).2
abbrev q12l:List Pk:=[.row Ru false,.row Ru false]
abbrev q12m:Type:=Du×Du×Unit
abbrev q12n:Type:=Int
def q12o (r:q12n):LV×List Ob:=(.int .i64 r,[])
def q12p (F:q12m→Option q12n):Go.Tx.Spec:=⟨154,q12l,q12n,F,q12o⟩
abbrev q12q:Type:=(q124→Option q125)×Unit
def q12r (d:Nat):q12q:=(q12j d,())
def q12s (C:q12q):List Go.Tx.Spec:=[q127 C.1]
abbrev q12t:Type:=Int×Int
def q12u (v:q12t):St:=⟨[(0,u6 v.1),(1,u6 v.2)],[]⟩
def q12v (C:q12q) (v:q12t):Dt q12t:=(Dt.ret (v.1,v.2))
abbrev q3z5 {V Y:Type}:=@rg q12q V Y tysT (fun C=>(orc (q12s C))) 20
theorem q12w C v:q3z5 (regO (qcy f154) 0) false (an [0,1]) q12u q12v q12u C v:=rgI (by kernel_rfl)
abbrev q12x:Type:=Int×Int×Bool
def q12y (v:q12x):St:=⟨[(0,u6 v.1),(1,u6 v.2.1),(5,.bool v.2.2)],[]⟩
def q12z (C:q12q) (v:q12t):Dt q12x:=(Dt.bnd (C.1 ((v.1,()),())) fun r1=>(Dt.ret (v.1,v.2,r1)))
theorem q130 C v:q3z5 (regO (qcy f154) 1) false (an [0,1,5]) q12u q12z q12y C v:=rgI (by kernel_rfl)
abbrev q131:Type:=Int×Int×Bool×Bool
def q132 (v:q131):St:=⟨[(0,u6 v.1),(1,u6 v.2.1),(5,.bool v.2.2.1),(6,.bool v.2.2.2)],[]⟩
def q133 (C:q12q) (v:q12x):Dt q131:=(Dt.bnd (C.1 ((v.2.1,()),())) fun r1=>(Dt.ret (v.1,v.2.1,v.2.2,r1)))
theorem q134 C v:q3z5 (regO (qcy f154) 2) false (an [0,1,5,6]) q12y q133 q132 C v:=rgI (by kernel_rfl)
abbrev q135:Type:=Int×Int×Bool×Bool
def q136 (v:q135):St:=⟨[(0,u6 v.1),(1,u6 v.2.1),(6,.bool v.2.2.1),(11,.bool v.2.2.2)],[]⟩
def q137 (C:q12q) (v:q131):Dt q135:=(Dt.ret (v.1,v.2.1,v.2.2.2,v.2.2.1))
theorem q138 C v:q3z5 (regO (qcy f154) 3) false (an [0,1,6,11]) q132 q137 q136 C v:=rgI (by kernel_rfl)
abbrev q139:Type:=Bool
def q13a (v:q139):St:=⟨[(12,.bool v)],[]⟩
def q13b (C:q12q) (v:q135):Dt q139:=(Dt.ret v.2.2.1)
theorem q13c C v:q3z5 (regO (qcy f154) 4) false [(12,.any)] q136 q13b q13a C v:=rgI (by kernel_rfl)
abbrev q13d:Type:=Int
def q13e (v:q13d):St:=⟨[(4,i6 v)],[]⟩
def q13f (C:q12q) (v:q139):Dt q13d:=(Dt.ret (0:Int))
theorem q13g C v:q3z5 (regO (qcy f154) 5) false [(4,.any)] q13a q13f q13e C v:=rgI (by kernel_rfl)
def q13h (C:q12q) (v:q139):Dt q13d:=(Dt.ret (-1:Int))
theorem q13i C v:q3z5 (regO (qcy f154) 6) false [(4,.any)] q13a q13h q13e C v:=rgI (by kernel_rfl)
abbrev q13j:Type:=Int×Int×Bool
def q13k (v:q13j):St:=⟨[(0,u6 v.1),(1,u6 v.2.1),(13,.bool v.2.2)],[]⟩
def q13l (C:q12q) (v:q135):Dt q13j:=(Dt.ret (v.1,v.2.1,v.2.2.1))
theorem q13m C v:q3z5 (regO (qcy f154) 7) false (an [0,1,13]) q136 q13l q13k C v:=rgI (by kernel_rfl)
def q13n (C:q12q) (v:q13j):Dt q13d:=(Dt.ret (1:Int))
theorem q13o C v:q3z5 (regO (qcy f154) 8) false [(4,.any)] q13k q13n q13e C v:=rgI (by kernel_rfl)
abbrev q13p:Type:=Int×Int×Bool
def q13q (v:q13p):St:=⟨[(0,u6 v.1),(1,u6 v.2.1),(16,.bool v.2.2)],[]⟩
def q13r (C:q12q) (v:q13j):Dt q13p:=(Dt.ret (v.1,v.2.1,(decide (v.1<v.2.1))))
theorem q13s C v:q3z5 (regO (qcy f154) 9) false (an [0,1,16]) q13k q13r q13q C v:=rgI (by kernel_rfl)
def q13t (C:q12q) (v:q13p):Dt q13d:=(Dt.ret (-1:Int))
theorem q13u C v:q3z5 (regO (qcy f154) 10) false [(4,.any)] q13q q13t q13e C v:=rgI (by kernel_rfl)
abbrev q13v:Type:=Bool
def q13w (v:q13v):St:=⟨[(19,.bool v)],[]⟩
def q13x (C:q12q) (v:q13p):Dt q13v:=(Dt.ret (decide (v.1 > v.2.1)))
theorem q13y C v:q3z5 (regO (qcy f154) 11) false [(19,.any)] q13q q13x q13w C v:=rgI (by kernel_rfl)
def q13z (C:q12q) (v:q13v):Dt q13d:=(Dt.ret (1:Int))
theorem q140 C v:q3z5 (regO (qcy f154) 12) false [(4,.any)] q13w q13z q13e C v:=rgI (by kernel_rfl)
def q141 (C:q12q) (v:q13v):Dt q13d:=(Dt.ret (0:Int))
theorem q142 C v:q3z5 (regO (qcy f154) 13) false [(4,.any)] q13w q141 q13e C v:=rgI (by kernel_rfl)
def q143 (d:Nat) (x:q12m):Option q12n :=
 (q12v (q12r d) (x.1.1,x.2.1.1)).eval fun y0 =>
 (q12z (q12r d) y0).eval fun y1 =>
 (q133 (q12r d) y1).eval fun y2 =>
 (q137 (q12r d) y2).eval fun y3 =>
 bif y3.2.2.2 then ((q13b (q12r d) y3).eval fun y4 =>
 bif y4 then ((q13f (q12r d) y4).eval fun y5 =>
 some y5) else ((q13h (q12r d) y4).eval fun y6 =>
 some y6)) else ((q13l (q12r d) y3).eval fun y7 =>
 bif y7.2.2 then ((q13n (q12r d) y7).eval fun y8 =>
 some y8) else ((q13r (q12r d) y7).eval fun y9 =>
 bif y9.2.2 then ((q13t (q12r d) y9).eval fun y10 =>
 some y10) else ((q13x (q12r d) y9).eval fun y11 =>
 bif y11 then ((q13z (q12r d) y11).eval fun y12 =>
 some y12) else ((q141 (q12r d) y11).eval fun y13 =>
 some y13))))
theorem q144 (d:Nat):COK prog (q12p (q143 d)):=by
 have hm:prog.follows .mixedOrders=true:=qjt
 have hT:=tys
 have hC0:OrcOK prog (orc (q12s (q12r d))):=qcs (by
  intro S hS
  simp only [q12s,List.mem_cons,List.not_mem_nil,or_false] at hS
  subst hS;exact q12k d)
 have hC:OrcOK prog (orc (q12s (q12r d))):=hC0
 refine q8e (c:=qcy f154) (fn:=f154) hT (by kernel_rfl) (by kernel_rfl) (by decide) fun x r h w0 φ0 Q hend=>?_
 replace h:q143 d x=some r:=h
 unfold q143 at h
 show Run prog w0 φ0 20 (qcy f154) ⟨[(0,.int .u64 x.1.1),(1,.int .u64 x.2.1.1)],[]⟩ Q
 refine q3yx hm hT hC (q12w (q12r d) (x.1.1,x.2.1.1)) h fun y0 h=>?_
 refine q3yx hm hT hC (q130 (q12r d) y0) h fun y1 h=>?_
 refine q3yx hm hT hC (q134 (q12r d) y1) h fun y2 h=>?_
 refine q7y ?_
 refine q3yx hm hT hC (q138 (q12r d) y2) h fun y3 h=>?_
 refine q82 (v:=y3.2.2.2) (by kernel_rfl) h ?_ ?_
 ·
  intro h
  refine q7y ?_
  refine q3yx hm hT hC (q13c (q12r d) y3) h fun y4 h=>?_
  refine q82 (v:=y4) (by kernel_rfl) h ?_ ?_
  ·
   intro h
   refine q3yx hm hT hC (q13g (q12r d) y4) h fun y5 h=>?_
   refine q7x (q7m (q7m ?_))
   cases h
   exact (hend _ (by kernel_rfl)).2
  ·
   intro h
   refine q7u (q7k ?_)
   refine q3yx hm hT hC (q13i (q12r d) y4) h fun y6 h=>?_
   refine q7x (q7m ?_)
   cases h
   exact (hend _ (by kernel_rfl)).2
 ·
  intro h
  refine q7u (q7k (q7y ?_))
  refine q3yx hm hT hC (q13m (q12r d) y3) h fun y7 h=>?_
  refine q82 (v:=y7.2.2) (by kernel_rfl) h ?_ ?_
  ·
   intro h
   refine q3yx hm hT hC (q13o (q12r d) y7) h fun y8 h=>?_
   refine q7x (q7m ?_)
   cases h
   exact (hend _ (by kernel_rfl)).2
  ·
   intro h
   refine q7u (q7k (q7y ?_))
   refine q3yx hm hT hC (q13s (q12r d) y7) h fun y9 h=>?_
   refine q82 (v:=y9.2.2) (by kernel_rfl) h ?_ ?_
   ·
    intro h
    refine q3yx hm hT hC (q13u (q12r d) y9) h fun y10 h=>?_
    refine q7x (q7m ?_)
    cases h
    exact (hend _ (by kernel_rfl)).2
   ·
    intro h
    refine q7u (q7k (q7y ?_))
    refine q3yx hm hT hC (q13y (q12r d) y9) h fun y11 h=>?_
    refine q82 (v:=y11) (by kernel_rfl) h ?_ ?_
    ·
     intro h
     refine q3yx hm hT hC (q140 (q12r d) y11) h fun y12 h=>?_
     refine q7x (q7m ?_)
     cases h
     exact (hend _ (by kernel_rfl)).2
    ·
     intro h
     refine q7u (q7k ?_)
     refine q3yx hm hT hC (q142 (q12r d) y11) h fun y13 h=>?_
     refine q7x ?_
     cases h
     exact (hend _ (by kernel_rfl)).2
abbrev q145:List Pk:=[.row Rbuu true,.row Rbuu true]
abbrev q146:Type:=Dbuu×Dbuu×Unit
abbrev q147:Type:=Int
def q148 (r:q147):LV×List Ob:=(.int .i64 r,[])
def q149 (F:q146→Option q147):Go.Tx.Spec:=⟨127,q145,q147,F,q148⟩
abbrev q14a:Type:=(q12m→Option q12n)×Unit
def q14b (d:Nat):q14a:=(q143 d,())
def q14c (C:q14a):List Go.Tx.Spec:=[q12p C.1]
abbrev q14d:Type:=Bool×Int×Int×Bool×Int×Int
def q14e (v:q14d):St:=⟨[(0,.agg [.bool v.1,u6 v.2.1,u6 v.2.2.1]),(1,.agg [.bool v.2.2.2.1,u6 v.2.2.2.2.1,u6 v.2.2.2.2.2])],[]⟩
abbrev q14f:Type:=Bool×Int×Int×Bool×Int×Int
def q14g (v:q14f):St:=⟨[(2,.ptr 0 0),(3,.ptr 1 0)],[.cells [.bool v.1,u6 v.2.1,u6 v.2.2.1],.cells [.bool v.2.2.2.1,u6 v.2.2.2.2.1,u6 v.2.2.2.2.2]]⟩
def q14h (C:q14a) (v:q14d):Dt q14f:=(Dt.ret (v.1,v.2.1,v.2.2.1,v.2.2.2.1,v.2.2.2.2.1,v.2.2.2.2.2))
abbrev q3z6 {V Y:Type}:=@rg q14a V Y tysT (fun C=>(orc (q14c C))) 19
theorem q14i C v:q3z6 (regO (qcy f127) 0) false (an [2,3]) q14e q14h q14g C v:=rgI (by kernel_rfl)
abbrev q14j:Type:=Int×Bool×Int×Int×Bool×Int×Int
def q14k (v:q14j):St:=⟨[(2,.ptr 0 0),(3,.ptr 1 0),(5,i6 v.1)],[.cells [.bool v.2.1,u6 v.2.2.1,u6 v.2.2.2.1],.cells [.bool v.2.2.2.2.1,u6 v.2.2.2.2.2.1,u6 v.2.2.2.2.2.2]]⟩
def q14l (C:q14a) (v:q14f):Dt q14j:=(Dt.bnd (C.1 ((v.2.1,()),(v.2.2.2.2.1,()),())) fun r1=>(Dt.ret (r1,v.1,v.2.1,v.2.2.1,v.2.2.2.1,v.2.2.2.2.1,v.2.2.2.2.2)))
theorem q14m C v:q3z6 (regO (qcy f127) 1) false (an [2,3,5]) q14g q14l q14k C v:=rgI (by kernel_rfl)
abbrev q14n:Type:=Int×Bool×Bool×Int×Int×Bool×Int×Int
def q14o (v:q14n):St:=⟨[(2,.ptr 0 0),(3,.ptr 1 0),(5,i6 v.1),(12,.bool v.2.1)],[.cells [.bool v.2.2.1,u6 v.2.2.2.1,u6 v.2.2.2.2.1],.cells [.bool v.2.2.2.2.2.1,u6 v.2.2.2.2.2.2.1,u6 v.2.2.2.2.2.2.2]]⟩
def q14p (C:q14a) (v:q14j):Dt q14n:=(Dt.ret (v.1,(v.1!=(0:Int)),v.2.1,v.2.2.1,v.2.2.2.1,v.2.2.2.2.1,v.2.2.2.2.2.1,v.2.2.2.2.2.2))
theorem q14q C v:q3z6 (regO (qcy f127) 2) false (an [2,3,5,12]) q14k q14p q14o C v:=rgI (by kernel_rfl)
abbrev q14r:Type:=Int
def q14s (v:q14r):St:=⟨[(4,i6 v)],[]⟩
def q14t (C:q14a) (v:q14n):Dt q14r:=(Dt.ret v.1)
theorem q14u C v:q3z6 (regO (qcy f127) 3) false [(4,.any)] q14o q14t q14s C v:=rgI (by kernel_rfl)
def q14v (C:q14a) (v:q14n):Dt q14r:=(Dt.bnd (C.1 ((v.2.2.2.2.1,()),(v.2.2.2.2.2.2.2,()),())) fun r1=>(Dt.ret r1))
theorem q14w C v:q3z6 (regO (qcy f127) 4) false [(4,.any)] q14o q14v q14s C v:=rgI (by kernel_rfl)
def q14x (d:Nat) (x:q146):Option q147 :=
 (q14h (q14b d) (x.1.1,x.1.2.1,x.1.2.2.1,x.2.1.1,x.2.1.2.1,x.2.1.2.2.1)).eval fun y0 =>
 (q14l (q14b d) y0).eval fun y1 =>
 (q14p (q14b d) y1).eval fun y2 =>
 bif y2.2.1 then ((q14t (q14b d) y2).eval fun y3 =>
 some y3) else ((q14v (q14b d) y2).eval fun y4 =>
 some y4)
theorem q14y (d:Nat):COK prog (q149 (q14x d)):=by
 have hm:prog.follows .mixedOrders=true:=qjt
 have hT:=tys
 have hC0:OrcOK prog (orc (q14c (q14b d))):=qcs (by
  intro S hS
  simp only [q14c,List.mem_cons,List.not_mem_nil,or_false] at hS
  subst hS;exact q144 d)
 have hC:OrcOK prog (orc (q14c (q14b d))):=hC0
 refine q8e (c:=qcy f127) (fn:=f127) hT (by kernel_rfl) (by kernel_rfl) (by decide) fun x r h w0 φ0 Q hend=>?_
 replace h:q14x d x=some r:=h
 unfold q14x at h
 show Run prog w0 φ0 19 (qcy f127) ⟨[(0,.agg [.bool x.1.1,.int .u64 x.1.2.1,.int .u64 x.1.2.2.1]),(1,.agg [.bool x.2.1.1,.int .u64 x.2.1.2.1,.int .u64 x.2.1.2.2.1])],[]⟩ Q
 refine q3yx hm hT hC (q14i (q14b d) (x.1.1,x.1.2.1,x.1.2.2.1,x.2.1.1,x.2.1.2.1,x.2.1.2.2.1)) h fun y0 h=>?_
 refine q7y ?_
 refine q3yx hm hT hC (q14m (q14b d) y0) h fun y1 h=>?_
 refine q3yx hm hT hC (q14q (q14b d) y1) h fun y2 h=>?_
 refine q82 (v:=y2.2.1) (by kernel_rfl) h ?_ ?_
 ·
  intro h
  refine q3yx hm hT hC (q14u (q14b d) y2) h fun y3 h=>?_
  refine q7x (q7m ?_)
  cases h
  exact (hend _ (by kernel_rfl)).2
 ·
  intro h
  refine q7u (q7k ?_)
  refine q3yx hm hT hC (q14w (q14b d) y2) h fun y4 h=>?_
  refine q7x ?_
  cases h
  exact (hend _ (by kernel_rfl)).2
abbrev q14z:List Pk:=[.row Rii true,.row Rii true]
abbrev q150:Type:=Dii×Dii×Unit
abbrev q151:Type:=Int×Int
def q152 (r:q151):LV×List Ob:=(.tup [.int .i64 r.1,.int .i64 r.2],[])
def q153 (F:q150→Option q151):Go.Tx.Spec:=⟨64,q14z,q151,F,q152⟩
abbrev q154:Type:=(qy6→Option qy7)×(q11g→Option q11h)×(qz8→Option qz9)×(q146→Option q147)×Unit
def q155 (d:Nat):q154:=(qyn d,q121 d,q10p d,q14x d,())
def q156 (C:q154):List Go.Tx.Spec:=[qy9 C.1,q11j C.2.1,qzb C.2.2.1,q149 C.2.2.2.1]
abbrev q157:Type:=Int×Int×Int×Int
def q158 (v:q157):St:=⟨[(0,.agg [i6 v.1,i6 v.2.1]),(1,.agg [i6 v.2.2.1,i6 v.2.2.2])],[]⟩
abbrev q159:Type:=Int×Int×Int×Int
def q15a (v:q159):St:=⟨[(2,.ptr 0 0),(3,.ptr 1 0)],[.cells [i6 v.1,i6 v.2.1],.cells [i6 v.2.2.1,i6 v.2.2.2]]⟩
def q15b (C:q154) (v:q157):Dt q159:=(Dt.ret (v.1,v.2.1,v.2.2.1,v.2.2.2))
abbrev q3z7 {V Y:Type}:=@rg q154 V Y tysT (fun C=>(orc (q156 C))) 43
theorem q15c C v:q3z7 (regO (qcy f64) 0) false (an [2,3]) q158 q15b q15a C v:=rgI (by kernel_rfl)
abbrev q15d:Type:=Int×Int×Int×Int×Int
def q15e (v:q15d):St:=⟨[(2,.ptr 0 0),(3,.ptr 1 0),(6,i6 v.1)],[.cells [i6 v.2.1,i6 v.2.2.1],.cells [i6 v.2.2.2.1,i6 v.2.2.2.2]]⟩
def q15f (C:q154) (v:q159):Dt q15d:=(Dt.bnd (C.1 ((v.1,v.2.1,()),(v.2.2.1,v.2.2.2,()),())) fun r1=>(Dt.ret (r1,v.1,v.2.1,v.2.2.1,v.2.2.2)))
theorem q15g C v:q3z7 (regO (qcy f64) 1) false (an [2,3,6]) q15a q15f q15e C v:=rgI (by kernel_rfl)
abbrev q15h:Type:=Int×Bool×Int×Int×Int×Int
def q15i (v:q15h):St:=⟨[(2,.ptr 0 0),(3,.ptr 1 0),(6,i6 v.1),(12,.bool v.2.1)],[.cells [i6 v.2.2.1,i6 v.2.2.2.1],.cells [i6 v.2.2.2.2.1,i6 v.2.2.2.2.2]]⟩
def q15j (C:q154) (v:q15d):Dt q15h:=(Dt.ret (v.1,(v.1!=(0:Int)),v.2.1,v.2.2.1,v.2.2.2.1,v.2.2.2.2))
theorem q15k C v:q3z7 (regO (qcy f64) 2) false (an [2,3,6,12]) q15e q15j q15i C v:=rgI (by kernel_rfl)
abbrev q15l:Type:=Int×Int
def q15m (v:q15l):St:=⟨[(4,i6 v.1),(5,i6 v.2)],[]⟩
def q15n (C:q154) (v:q15h):Dt q15l:=(Dt.ret ((0:Int),v.1))
theorem q15o C v:q3z7 (regO (qcy f64) 3) false (an [4,5]) q15i q15n q15m C v:=rgI (by kernel_rfl)
abbrev q15p:Type:=Bool×Int×Int×Int×Int
def q15q (v:q15p):St:=⟨[(2,.ptr 0 0),(3,.ptr 1 0),(20,.bool v.1)],[.cells [i6 v.2.1,i6 v.2.2.1],.cells [i6 v.2.2.2.1,i6 v.2.2.2.2]]⟩
def q15r (C:q154) (v:q15h):Dt q15p:=(Dt.ret ((!((decide (v.2.2.1<(0:Int)))==(decide (v.2.2.2.2.1<(0:Int))))),v.2.2.1,v.2.2.2.1,v.2.2.2.2.1,v.2.2.2.2.2))
theorem q15s C v:q3z7 (regO (qcy f64) 4) false (an [2,3,20]) q15i q15r q15q C v:=rgI (by kernel_rfl)
def q15t (C:q154) (v:q15p):Dt q15l:=(Dt.bnd (C.2.2.1 ((v.2.1,()),(v.2.2.2.1,()),())) fun r1=>(Dt.ret (r1,(0:Int))))
theorem q15u C v:q3z7 (regO (qcy f64) 5) false (an [4,5]) q15q q15t q15m C v:=rgI (by kernel_rfl)
abbrev q15v:Type:=Int×Int×Int
def q15w (v:q15v):St:=⟨[(2,.ptr 0 0),(7,i6 v.1)],[.cells [i6 v.2.1,i6 v.2.2]]⟩
def q15x (C:q154) (v:q15p):Dt q15v:=(Dt.bnd (C.2.1 ((v.2.1,()),(v.2.2.2.2,()),())) fun r1=>(Dt.bnd (C.2.1 ((v.2.2.2.1,()),(v.2.2.1,()),())) fun r2=>(Dt.bnd (C.2.2.2.1 ((r1.1,r1.2.1,r1.2.2,()),(r2.1,r2.2.1,r2.2.2,()),())) fun r3=>(Dt.ret (r3,v.2.1,v.2.2.1)))))
theorem q15y C v:q3z7 (regO (qcy f64) 6) true (an [2,7]) q15q q15x q15w C v:=rgI (by kernel_rfl)
abbrev q15z:Type:=Int×Bool
def q160 (v:q15z):St:=⟨[(7,i6 v.1),(39,.bool v.2)],[]⟩
def q161 (C:q154) (v:q15v):Dt q15z:=(Dt.ret (v.1,(decide (v.2.1<(0:Int)))))
theorem q162 C v:q3z7 (regO (qcy f64) 7) false (an [7,39]) q15w q161 q160 C v:=rgI (by kernel_rfl)
abbrev q163:Type:=Int
def q164 (v:q163):St:=⟨[(7,i6 v)],[]⟩
def q165 (C:q154) (v:q15z):Dt q163:=(Dt.ret (IntKind.wrap .i64 (0 - v.1)))
theorem q166 C v:q3z7 (regO (qcy f64) 8) false [(7,.any)] q160 q165 q164 C v:=rgI (by kernel_rfl)
def q167 (C:q154) (v:q163):Dt q15l:=(Dt.ret (v,(0:Int)))
theorem q168 C v:q3z7 (regO (qcy f64) 9) false (an [4,5]) q164 q167 q15m C v:=rgI (by kernel_rfl)
def q169  (d:Nat)  (z:Int):Option (q151) :=
 (q167 (q155 d) z).eval fun y9 =>
 some y9
def q16a (d:Nat) (x:q150):Option q151 :=
 (q15b (q155 d) (x.1.1,x.1.2.1,x.2.1.1,x.2.1.2.1)).eval fun y0 =>
 (q15f (q155 d) y0).eval fun y1 =>
 (q15j (q155 d) y1).eval fun y2 =>
 bif y2.2.1 then ((q15n (q155 d) y2).eval fun y3 =>
 some y3) else ((q15r (q155 d) y2).eval fun y4 =>
 bif y4.1 then ((q15t (q155 d) y4).eval fun y5 =>
 some y5) else ((q15x (q155 d) y4).eval fun y6 =>
 (q161 (q155 d) y6).eval fun y7 =>
 bif y7.2 then ((q165 (q155 d) y7).eval fun y8 =>
 q169 d  y8) else (q169 d  y7.1)))
theorem q16b (d:Nat):COK prog (q153 (q16a d)):=by
 have hm:prog.follows .mixedOrders=true:=qjt
 have hT:=tys
 have hC0:OrcOK prog (orc (q156 (q155 d))):=qcs (by
  intro S hS
  simp only [q156,List.mem_cons,List.not_mem_nil,or_false] at hS
  rcases hS with rfl | rfl | rfl | rfl
  · exact qyo d
  · exact q122 d
  · exact q10q d
  · exact q14y d)
 have hC:OrcOK prog (orc (q156 (q155 d))):=hC0
 refine q8e (c:=qcy f64) (fn:=f64) hT (by kernel_rfl) (by kernel_rfl) (by decide) fun x r h w0 φ0 Q hend=>?_
 replace h:q16a d x=some r:=h
 unfold q16a at h
 show Run prog w0 φ0 43 (qcy f64) ⟨[(0,.agg [.int .i64 x.1.1,.int .i64 x.1.2.1]),(1,.agg [.int .i64 x.2.1.1,.int .i64 x.2.1.2.1])],[]⟩ Q
 refine q3yx hm hT hC (q15c (q155 d) (x.1.1,x.1.2.1,x.2.1.1,x.2.1.2.1)) h fun y0 h=>?_
 refine q7y ?_
 refine q3yx hm hT hC (q15g (q155 d) y0) h fun y1 h=>?_
 refine q3yx hm hT hC (q15k (q155 d) y1) h fun y2 h=>?_
 refine q82 (v:=y2.2.1) (by kernel_rfl) h ?_ ?_
 ·
  intro h
  refine q3yx hm hT hC (q15o (q155 d) y2) h fun y3 h=>?_
  refine q7x (q7m ?_)
  cases h
  exact (hend _ (by kernel_rfl)).2
 ·
  intro h
  refine q7u (q7k (q7y ?_))
  refine q3yx hm hT hC (q15s (q155 d) y2) h fun y4 h=>?_
  refine q82 (v:=y4.1) (by kernel_rfl) h ?_ ?_
  ·
   intro h
   refine q3yx hm hT hC (q15u (q155 d) y4) h fun y5 h=>?_
   refine q7x (q7m ?_)
   cases h
   exact (hend _ (by kernel_rfl)).2
  ·
   intro h
   refine q7u (q7k ?_)
   refine q3yx hm hT hC (q15y (q155 d) y4) h fun y6 h=>?_
   refine q81 (r:=r) (F:=q169 d ) (S:=(fun z=>⟨[(7,i6 z)],[]⟩:Int→St)) ?_ ?_
   ·
    intro z h
    unfold q169 at h
    refine q3yx hm hT hC (q168 (q155 d) z) h fun y9 h=>?_
    refine q7x ?_
    cases h
    exact (hend _ (by kernel_rfl)).2
   intro hj1
   refine q3yx hm hT hC (q162 (q155 d) y6) h fun y7 h=>?_
   refine q82 (v:=y7.2) (by kernel_rfl) h ?_ ?_
   ·
    intro h
    refine q83 hm hT hC (q166 (q155 d) y7) h ?_
    intro y8 h
    exact hj1 _ h
   ·
    intro h
    refine q7u ?_
    refine qcx (s:=⟨[(7,.int .i64 y7.1)],[]⟩) [39] (by kernel_rfl) ?_
    exact hj1 _ h
abbrev q16c:List Pk:=[.row Rii true,.row Rii true]
abbrev q16d:Type:=Dii×Dii×Unit
abbrev q16e:Type:=Int
def q16f (r:q16e):LV×List Ob:=(.int .i64 r,[])
def q16g (F:q16d→Option q16e):Go.Tx.Spec:=⟨109,q16c,q16e,F,q16f⟩
abbrev q16h:Type:=(q150→Option q151)×Unit
def q16i (d:Nat):q16h:=(q16a d,())
def q16j (C:q16h):List Go.Tx.Spec:=[q153 C.1]
abbrev q16k:Type:=Int×Int×Int×Int
def q16l (v:q16k):St:=⟨[(0,.agg [i6 v.1,i6 v.2.1]),(1,.agg [i6 v.2.2.1,i6 v.2.2.2])],[]⟩
abbrev q16m:Type:=Int×Int×Int×Int
def q16n (v:q16m):St:=⟨[(2,.ptr 0 0),(3,.ptr 1 0)],[.cells [i6 v.1,i6 v.2.1],.cells [i6 v.2.2.1,i6 v.2.2.2]]⟩
def q16o (C:q16h) (v:q16k):Dt q16m:=(Dt.ret (v.1,v.2.1,v.2.2.1,v.2.2.2))
abbrev q3z8 {V Y:Type}:=@rg q16h V Y tysT (fun C=>(orc (q16j C))) 14
theorem q16p C v:q3z8 (regO (qcy f109) 0) false (an [2,3]) q16l q16o q16n C v:=rgI (by kernel_rfl)
abbrev q16q:Type:=Int
def q16r (v:q16q):St:=⟨[(5,i6 v)],[]⟩
def q16s (C:q16h) (v:q16m):Dt q16q:=(Dt.bnd (C.1 ((v.1,v.2.1,()),(v.2.2.1,v.2.2.2,()),())) fun r1=>(Dt.ret r1.1))
theorem q16t C v:q3z8 (regO (qcy f109) 1) false [(5,.any)] q16n q16s q16r C v:=rgI (by kernel_rfl)
abbrev q16u:Type:=Int
def q16v (v:q16u):St:=⟨[(4,i6 v)],[]⟩
def q16w (C:q16h) (v:q16q):Dt q16u:=(Dt.ret v)
theorem q16x C v:q3z8 (regO (qcy f109) 2) false [(4,.any)] q16r q16w q16v C v:=rgI (by kernel_rfl)
def q16y (d:Nat) (x:q16d):Option q16e :=
 (q16o (q16i d) (x.1.1,x.1.2.1,x.2.1.1,x.2.1.2.1)).eval fun y0 =>
 (q16s (q16i d) y0).eval fun y1 =>
 (q16w (q16i d) y1).eval fun y2 =>
 some y2
theorem q16z (d:Nat):COK prog (q16g (q16y d)):=by
 have hm:prog.follows .mixedOrders=true:=qjt
 have hT:=tys
 have hC0:OrcOK prog (orc (q16j (q16i d))):=qcs (by
  intro S hS
  simp only [q16j,List.mem_cons,List.not_mem_nil,or_false] at hS
  subst hS;exact q16b d)
 have hC:OrcOK prog (orc (q16j (q16i d))):=hC0
 refine q8e (c:=qcy f109) (fn:=f109) hT (by kernel_rfl) (by kernel_rfl) (by decide) fun x r h w0 φ0 Q hend=>?_
 replace h:q16y d x=some r:=h
 unfold q16y at h
 show Run prog w0 φ0 14 (qcy f109) ⟨[(0,.agg [.int .i64 x.1.1,.int .i64 x.1.2.1]),(1,.agg [.int .i64 x.2.1.1,.int .i64 x.2.1.2.1])],[]⟩ Q
 refine q3yx hm hT hC (q16p (q16i d) (x.1.1,x.1.2.1,x.2.1.1,x.2.1.2.1)) h fun y0 h=>?_
 refine q3yx hm hT hC (q16t (q16i d) y0) h fun y1 h=>?_
 refine q3yx hm hT hC (q16x (q16i d) y1) h fun y2 h=>?_
 refine q7x ?_
 cases h
 exact (hend _ (by kernel_rfl)).2
abbrev q170:List Pk:=[.row qjb true,.row qjk false]
abbrev q171:Type:=qjc×qjl×Unit
abbrev q172:Type:=Int
def q173 (r:q172):LV×List Ob:=(.int .i64 r,[])
def q174 (F:q171→Option q172):Go.Tx.Spec:=⟨53,q170,q172,F,q173⟩
abbrev q175:Type:=(qpg→Option qph)×(qmy→Option qmz)×(q16d→Option q16e)×Unit
def q176 (d:Nat):q175:=(qpl d,qn3 d,q16y d,())
def q177 (C:q175):List Go.Tx.Spec:=[qpj C.1,qn1 C.2.1,q16g C.2.2.1]
abbrev q178:Type:=List Diii×List Dii
def q179 (v:q178):St:=⟨[(0,.agg [.fz Riii v.1]),(1,.fz Rii v.2)],[]⟩
abbrev q17a:Type:=List Dii×List Diii
def q17b (v:q17a):St:=⟨[(1,.fz Rii v.1),(2,.ptr 0 0)],[.cells [.fz Riii v.2]]⟩
def q17c (C:q175) (v:q178):Dt q17a:=(Dt.ret (v.2,v.1))
abbrev q3z9 {V Y:Type}:=@rg q175 V Y tysT (fun C=>(orc (q177 C))) 39
theorem q17d C v:q3z9 (regO (qcy f53) 0) false [(1,(.val Rii)),(2,(.box [.val Riii]))] q179 q17c q17b C v:=rgI (by kernel_rfl)
abbrev q17e:Type:=List Dii×Int
def q17f (v:q17e):St:=⟨[(1,.fz Rii v.1),(5,i6 v.2)],[]⟩
def q17g (C:q175) (v:q17a):Dt q17e:=(Dt.bnd (C.1 ((v.2,()),())) fun r1=>(Dt.ret (v.1,r1)))
theorem q17h C v:q3z9 (regO (qcy f53) 1) false [(1,(.val Rii)),(5,.any)] q17b q17g q17f C v:=rgI (by kernel_rfl)
abbrev q17i:Type:=List Dii×Int×Bool
def q17j (v:q17i):St:=⟨[(1,.fz Rii v.1),(5,i6 v.2.1),(12,.bool v.2.2)],[]⟩
def q17k (C:q175) (v:q17e):Dt q17i:=(Dt.ret (v.1,v.2,(v.2!=(0:Int))))
theorem q17l C v:q3z9 (regO (qcy f53) 2) false [(1,(.val Rii)),(5,.any),(12,.any)] q17f q17k q17j C v:=rgI (by kernel_rfl)
abbrev q17m:Type:=Int
def q17n (v:q17m):St:=⟨[(4,i6 v)],[]⟩
def q17o (C:q175) (v:q17i):Dt q17m:=(Dt.ret v.2.1)
theorem q17p C v:q3z9 (regO (qcy f53) 3) false [(4,.any)] q17j q17o q17n C v:=rgI (by kernel_rfl)
abbrev q17q:Type:=List Dii×List Dii×Int×Int
def q17r (v:q17q):St:=⟨[(1,.fz Rii v.1),(14,.fz Rii v.2.1),(15,i6 v.2.2.1),(16,i6 v.2.2.2)],[]⟩
def q17s (C:q175) (v:q17i):Dt q17q:=(Dt.ret (v.1,v.1,(List.length v.1:Int),(0:Int)))
theorem q17t C v:q3z9 (regO (qcy f53) 4) false [(1,(.val Rii)),(14,(.val Rii)),(15,.any),(16,.any)] q17j q17s q17r C v:=rgI (by kernel_rfl)
abbrev q17u:Type:=List Dii×List Dii×Int×Int×Bool
def q17v (v:q17u):St:=⟨[(1,.fz Rii v.1),(14,.fz Rii v.2.1),(15,i6 v.2.2.1),(16,i6 v.2.2.2.1),(17,.bool v.2.2.2.2)],[]⟩
def q17w (C:q175) (v:q17q):Dt q17u:=(Dt.ret (v.1,v.2.1,v.2.2.1,v.2.2.2,(decide (v.2.2.2<v.2.2.1))))
theorem q17x C v:q3z9 (regO (qcy f53) 5) false [(1,(.val Rii)),(14,(.val Rii)),(15,.any),(16,.any),(17,.any)] q17r q17w q17v C v:=rgI (by kernel_rfl)
abbrev q17y:Type:=List Dii×List Dii×Int×Int×Int×Int
def q17z (v:q17y):St:=⟨[(1,.fz Rii v.1),(7,.ptr 0 0),(14,.fz Rii v.2.1),(15,i6 v.2.2.1),(16,i6 v.2.2.2.1)],[.cells [i6 v.2.2.2.2.1,i6 v.2.2.2.2.2]]⟩
def q180 (C:q175) (v:q17u):Dt q17y:=(Dt.ite (inB v.2.2.2.1 (List.length v.2.1)) (Dt.ret (v.1,v.2.1,v.2.2.1,v.2.2.2.1,(elt zii v.2.1 (v.2.2.2.1).toNat).1,(elt zii v.2.1 (v.2.2.2.1).toNat).2.1)) Dt.fail)
theorem q181 C v:q3z9 (regO (qcy f53) 6) false [(1,(.val Rii)),(7,.any),(14,(.val Rii)),(15,.any),(16,.any)] q17v q180 q17z C v:=rgI (by kernel_rfl)
abbrev q182:Type:=List Dii×Int×List Dii×Int×Int
def q183 (v:q182):St:=⟨[(1,.fz Rii v.1),(8,i6 v.2.1),(14,.fz Rii v.2.2.1),(15,i6 v.2.2.2.1),(16,i6 v.2.2.2.2)],[]⟩
def q184 (C:q175) (v:q17y):Dt q182:=(Dt.bnd (C.2.1 ((v.2.2.2.2.1,v.2.2.2.2.2,()),())) fun r1=>(Dt.ret (v.1,r1,v.2.1,v.2.2.1,v.2.2.2.1)))
theorem q185 C v:q3z9 (regO (qcy f53) 7) false [(1,(.val Rii)),(8,.any),(14,(.val Rii)),(15,.any),(16,.any)] q17z q184 q183 C v:=rgI (by kernel_rfl)
abbrev q186:Type:=List Dii×Int×List Dii×Int×Int×Bool
def q187 (v:q186):St:=⟨[(1,.fz Rii v.1),(8,i6 v.2.1),(14,.fz Rii v.2.2.1),(15,i6 v.2.2.2.1),(16,i6 v.2.2.2.2.1),(23,.bool v.2.2.2.2.2)],[]⟩
def q188 (C:q175) (v:q182):Dt q186:=(Dt.ret (v.1,v.2.1,v.2.2.1,v.2.2.2.1,v.2.2.2.2,(v.2.1!=(0:Int))))
theorem q189 C v:q3z9 (regO (qcy f53) 8) false [(1,(.val Rii)),(8,.any),(14,(.val Rii)),(15,.any),(16,.any),(23,.any)] q183 q188 q187 C v:=rgI (by kernel_rfl)
def q18a (C:q175) (v:q186):Dt q17m:=(Dt.ret v.2.1)
theorem q18b C v:q3z9 (regO (qcy f53) 9) false [(4,.any)] q187 q18a q17n C v:=rgI (by kernel_rfl)
def q18c (C:q175) (v:q186):Dt q17q:=(Dt.ret (v.1,v.2.2.1,v.2.2.2.1,(IntKind.wrap .i64 (v.2.2.2.2.1+(1:Int)))))
theorem q18d C v:q3z9 (regO (qcy f53) 10) false [(1,(.val Rii)),(14,(.val Rii)),(15,.any),(16,.any)] q187 q18c q17r C v:=rgI (by kernel_rfl)
abbrev q18e:Type:=Bool
def q18f (v:q18e):St:=⟨[(38,.bool v)],[]⟩
def q18g (C:q175) (v:q17u):Dt q18e:=(Dt.ite ((List.length v.1:Int)==(2:Int)) (Dt.ite (inB (0:Int) (List.length v.1)) (Dt.ite (inB (1:Int) (List.length v.1)) (Dt.bnd (C.2.2.1 (((elt zii v.1 ((0:Int)).toNat).1,(elt zii v.1 ((0:Int)).toNat).2.1,()),((elt zii v.1 ((1:Int)).toNat).1,(elt zii v.1 ((1:Int)).toNat).2.1,()),())) fun r1=>(Dt.ret (decide (r1 > (0:Int))))) Dt.fail) Dt.fail) (Dt.ret false))
theorem q18h C v:q3z9 (regO (qcy f53) 11) true [(38,.any)] q17v q18g q18f C v:=rgI (by kernel_rfl)
def q18i (C:q175) (v:q18e):Dt q17m:=(Dt.ret (2:Int))
theorem q18j C v:q3z9 (regO (qcy f53) 12) false [(4,.any)] q18f q18i q17n C v:=rgI (by kernel_rfl)
def q18k (C:q175) (v:q18e):Dt q17m:=(Dt.ret (0:Int))
theorem q18l C v:q3z9 (regO (qcy f53) 13) false [(4,.any)] q18f q18k q17n C v:=rgI (by kernel_rfl)
def q18m (d:Nat) (self1:(List Dii×List Dii×Int×Int)→Option q172) (x1:List Dii×List Dii×Int×Int):Option q172 :=
 (q17w (q176 d) x1).eval fun y5 =>
 bif y5.2.2.2.2 then ((q180 (q176 d) y5).eval fun y6 =>
 (q184 (q176 d) y6).eval fun y7 =>
 (q188 (q176 d) y7).eval fun y8 =>
 bif y8.2.2.2.2.2 then ((q18a (q176 d) y8).eval fun y9 =>
 some y9) else ((q18c (q176 d) y8).eval fun y10 =>
 self1 y10)) else ((q18g (q176 d) y5).eval fun y11 =>
 bif y11 then ((q18i (q176 d) y11).eval fun y12 =>
 some y12) else ((q18k (q176 d) y11).eval fun y13 =>
 some y13))
def q18n (d:Nat) (x:q171):Option q172 :=
 (q17c (q176 d) (x.1.1,x.2.1.1)).eval fun y0 =>
 (q17g (q176 d) y0).eval fun y1 =>
 (q17k (q176 d) y1).eval fun y2 =>
 bif y2.2.2 then ((q17o (q176 d) y2).eval fun y3 =>
 some y3) else ((q17s (q176 d) y2).eval fun y4 =>
 iter (q18m d ) d y4)
theorem q18o (d:Nat):COK prog (q174 (q18n d)):=by
 have hm:prog.follows .mixedOrders=true:=qjt
 have hT:=tys
 have hC0:OrcOK prog (orc (q177 (q176 d))):=qcs (by
  intro S hS
  simp only [q177,List.mem_cons,List.not_mem_nil,or_false] at hS
  rcases hS with rfl | rfl | rfl
  · exact qpn d
  · exact qn5 d
  · exact q16z d)
 have hC:OrcOK prog (orc (q177 (q176 d))):=hC0
 refine q8e (c:=qcy f53) (fn:=f53) hT (by kernel_rfl) (by kernel_rfl) (by decide) fun x r h w0 φ0 Q hend=>?_
 replace h:q18n d x=some r:=h
 unfold q18n at h
 show Run prog w0 φ0 39 (qcy f53) ⟨[(0,.agg [.fz Riii x.1.1]),(1,.fz Rii x.2.1.1)],[]⟩ Q
 refine q3yx hm hT hC (q17d (q176 d) (x.1.1,x.2.1.1)) h fun y0 h=>?_
 refine q7y ?_
 refine q3yx hm hT hC (q17h (q176 d) y0) h fun y1 h=>?_
 refine q3yx hm hT hC (q17l (q176 d) y1) h fun y2 h=>?_
 refine q82 (v:=y2.2.2) (by kernel_rfl) h ?_ ?_
 ·
  intro h
  refine q3yx hm hT hC (q17p (q176 d) y2) h fun y3 h=>?_
  refine q7x (q7m ?_)
  cases h
  exact (hend _ (by kernel_rfl)).2
 ·
  intro h
  refine q7u (q7k (q7y ?_))
  refine q3yx hm hT hC (q17t (q176 d) y2) h fun y4 h=>?_
  refine q7z ?_
  refine q84 (G:=iter (q18m d )) (S:=(fun x1=>⟨[(1,.fz Rii x1.1),(14,.fz Rii x1.2.1),(15,i6 x1.2.2.1),(16,i6 x1.2.2.2)],[]⟩:List Dii×List Dii×Int×Int→St)) (fun _=>rfl) ?_ d _ h
  intro n1 x1 h K1 hn1
  replace h:q18m d  (iter (q18m d ) n1) x1=some r:=h
  generalize iter (q18m d ) n1=self1 at h hn1
  unfold q18m at h
  refine q3yx hm hT hC (q17x (q176 d) x1) h fun y5 h=>?_
  refine q7y ?_
  refine q82 (v:=y5.2.2.2.2) (by kernel_rfl) h ?_ ?_
  ·
   intro h
   refine q7u (q7k (q7y (q7z ?_)))
   refine q3yx hm hT hC (q181 (q176 d) y5) h fun y6 h=>?_
   refine q3yx hm hT hC (q185 (q176 d) y6) h fun y7 h=>?_
   refine q3yx hm hT hC (q189 (q176 d) y7) h fun y8 h=>?_
   refine q82 (v:=y8.2.2.2.2.2) (by kernel_rfl) h ?_ ?_
   ·
    intro h
    refine q3yx hm hT hC (q18b (q176 d) y8) h fun y9 h=>?_
    refine q7x (q7o (q7m (q7m (q7o (q7m ?_)))))
    cases h
    exact (hend _ (by kernel_rfl)).2
   ·
    intro h
    refine q7u (q7n (q7k ?_))
    refine q83 hm hT hC (q18d (q176 d) y8) h ?_
    intro y10 h
    exact hn1 _ h
  ·
   intro h
   refine q7w (q7l (q7l (q7p (q7k (q7y ?_)))))
   refine q3yx hm hT hC (q18h (q176 d) y5) h fun y11 h=>?_
   refine q82 (v:=y11) (by kernel_rfl) h ?_ ?_
   ·
    intro h
    refine q3yx hm hT hC (q18j (q176 d) y11) h fun y12 h=>?_
    refine q7x (q7m ?_)
    cases h
    exact (hend _ (by kernel_rfl)).2
   ·
    intro h
    refine q7u (q7k ?_)
    refine q3yx hm hT hC (q18l (q176 d) y11) h fun y13 h=>?_
    refine q7x ?_
    cases h
    exact (hend _ (by kernel_rfl)).2
abbrev q18p:List Pk:=[.row qjb true]
abbrev q18q:Type:=qjc×Unit
abbrev q18r:Type:=List Diii
def q18s (r:q18r):LV×List Ob:=(.fn 147 [.ptr 0 0],[.cells [.fz Riii r]])
def q18t (F:q18q→Option q18r):Go.Tx.Spec:=⟨110,q18p,q18r,F,q18s⟩
abbrev q18u:Type:=Unit
def q18v (_d:Nat):q18u:=()
def q18w (C:q18u):List Go.Tx.Spec:=[]
abbrev q18x:Type:=List Diii
def q18y (v:q18x):St:=⟨[(0,.agg [.fz Riii v])],[]⟩
abbrev q18z:Type:=List Diii
def q190 (v:q18z):St:=⟨[(1,.ptr 0 0)],[.cells [.fz Riii v]]⟩
def q191 (C:q18u) (v:q18x):Dt q18z:=(Dt.ret v)
abbrev q3za {V Y:Type}:=@rg q18u V Y tysT (fun C=>(orc (q18w C))) 4
theorem q192 C v:q3za (regO (qcy f110) 0) false [(1,(.box [.val Riii]))] q18y q191 q190 C v:=rgI (by kernel_rfl)
abbrev q193:Type:=List Diii
def q194 (v:q193):St:=⟨[(2,.fn 147 [.ptr 0 0])],[.cells [.fz Riii v]]⟩
def q195 (C:q18u) (v:q18z):Dt q193:=(Dt.ret v)
theorem q196 C v:q3za (regO (qcy f110) 1) false [(2,.any)] q190 q195 q194 C v:=rgI (by kernel_rfl)
def q197 (d:Nat) (x:q18q):Option q18r :=
 (q191 (q18v d) x.1.1).eval fun y0 =>
 (q195 (q18v d) y0).eval fun y1 =>
 some y1
theorem q198 (d:Nat):COK prog (q18t (q197 d)):=by
 have hm:prog.follows .mixedOrders=true:=qjt
 have hT:=tys
 have hC0:OrcOK prog (orc (q18w (q18v d))):=qcs (by
  intro S hS
  simp only [q18w,List.mem_cons,List.not_mem_nil,or_false] at hS
  all_goals first | cases hS | exact hS.elim)
 have hC:OrcOK prog (orc (q18w (q18v d))):=hC0
 refine q8e (c:=qcy f110) (fn:=f110) hT (by kernel_rfl) (by kernel_rfl) (by decide) fun x r h w0 φ0 Q hend=>?_
 replace h:q197 d x=some r:=h
 unfold q197 at h
 show Run prog w0 φ0 4 (qcy f110) ⟨[(0,.agg [.fz Riii x.1.1])],[]⟩ Q
 refine q3yx hm hT hC (q192 (q18v d) x.1.1) h fun y0 h=>?_
 refine q3yx hm hT hC (q196 (q18v d) y0) h fun y1 h=>?_
 refine q7x ?_
 cases h
 exact (hend _ (by kernel_rfl)).2
abbrev q199:List Pk:=[.row Ri false]
abbrev q19a:Type:=Di×Unit
abbrev q19b:Type:=Bool
def q19c (r:q19b):LV×List Ob:=(.bool r,[])
def q19d (F:q19a→Option q19b):Go.Tx.Spec:=⟨160,q199,q19b,F,q19c⟩
abbrev q19e:Type:=Unit
def q19f (_d:Nat):q19e:=()
def q19g (C:q19e):List Go.Tx.Spec:=[]
abbrev q19h:Type:=Int
def q19i (v:q19h):St:=⟨[(0,i6 v)],[]⟩
def q19j (C:q19e) (v:q19h):Dt q19h:=(Dt.ret v)
abbrev q3zb {V Y:Type}:=@rg q19e V Y tysT (fun C=>(orc (q19g C))) 6
theorem q19k C v:q3zb (regO (qcy f160) 0) false [(0,.any)] q19i q19j q19i C v:=rgI (by kernel_rfl)
abbrev q19l:Type:=Bool
def q19m (v:q19l):St:=⟨[(2,.bool v)],[]⟩
def q19n (C:q19e) (v:q19h):Dt q19l:=(Dt.ret (v!=v))
theorem q19o C v:q3zb (regO (qcy f160) 1) false [(2,.any)] q19i q19n q19m C v:=rgI (by kernel_rfl)
def q19p (d:Nat) (x:q19a):Option q19b :=
 (q19j (q19f d) x.1.1).eval fun y0 =>
 (q19n (q19f d) y0).eval fun y1 =>
 some y1
theorem q19q (d:Nat):COK prog (q19d (q19p d)):=by
 have hm:prog.follows .mixedOrders=true:=qjt
 have hT:=tys
 have hC0:OrcOK prog (orc (q19g (q19f d))):=qcs (by
  intro S hS
  simp only [q19g,List.mem_cons,List.not_mem_nil,or_false] at hS
  all_goals first | cases hS | exact hS.elim)
 have hC:OrcOK prog (orc (q19g (q19f d))):=hC0
 refine q8e (c:=qcy f160) (fn:=f160) hT (by kernel_rfl) (by kernel_rfl) (by decide) fun x r h w0 φ0 Q hend=>?_
 replace h:q19p d x=some r:=h
 unfold q19p at h
 show Run prog w0 φ0 6 (qcy f160) ⟨[(0,.int .i64 x.1.1)],[]⟩ Q
 refine q3yx hm hT hC (q19k (q19f d) x.1.1) h fun y0 h=>?_
 refine q3yx hm hT hC (q19o (q19f d) y0) h fun y1 h=>?_
 refine q7x ?_
 cases h
 exact (hend _ (by kernel_rfl)).2
abbrev q19r:List Pk:=[.row Ri false,.row Ri false]
abbrev q19s:Type:=Di×Di×Unit
abbrev q19t:Type:=Int
def q19u (r:q19t):LV×List Ob:=(.int .i64 r,[])
def q19v (F:q19s→Option q19t):Go.Tx.Spec:=⟨140,q19r,q19t,F,q19u⟩
abbrev q19w:Type:=(q19a→Option q19b)×Unit
def q19x (d:Nat):q19w:=(q19p d,())
def q19y (C:q19w):List Go.Tx.Spec:=[q19d C.1]
abbrev q19z:Type:=Int×Int
def q1a0 (v:q19z):St:=⟨[(0,i6 v.1),(1,i6 v.2)],[]⟩
def q1a1 (C:q19w) (v:q19z):Dt q19z:=(Dt.ret (v.1,v.2))
abbrev q3zc {V Y:Type}:=@rg q19w V Y tysT (fun C=>(orc (q19y C))) 20
theorem q1a2 C v:q3zc (regO (qcy f140) 0) false (an [0,1]) q1a0 q1a1 q1a0 C v:=rgI (by kernel_rfl)
abbrev q1a3:Type:=Int×Int×Bool
def q1a4 (v:q1a3):St:=⟨[(0,i6 v.1),(1,i6 v.2.1),(5,.bool v.2.2)],[]⟩
def q1a5 (C:q19w) (v:q19z):Dt q1a3:=(Dt.bnd (C.1 ((v.1,()),())) fun r1=>(Dt.ret (v.1,v.2,r1)))
theorem q1a6 C v:q3zc (regO (qcy f140) 1) false (an [0,1,5]) q1a0 q1a5 q1a4 C v:=rgI (by kernel_rfl)
abbrev q1a7:Type:=Int×Int×Bool×Bool
def q1a8 (v:q1a7):St:=⟨[(0,i6 v.1),(1,i6 v.2.1),(5,.bool v.2.2.1),(6,.bool v.2.2.2)],[]⟩
def q1a9 (C:q19w) (v:q1a3):Dt q1a7:=(Dt.bnd (C.1 ((v.2.1,()),())) fun r1=>(Dt.ret (v.1,v.2.1,v.2.2,r1)))
theorem q1aa C v:q3zc (regO (qcy f140) 2) false (an [0,1,5,6]) q1a4 q1a9 q1a8 C v:=rgI (by kernel_rfl)
abbrev q1ab:Type:=Int×Int×Bool×Bool
def q1ac (v:q1ab):St:=⟨[(0,i6 v.1),(1,i6 v.2.1),(6,.bool v.2.2.1),(11,.bool v.2.2.2)],[]⟩
def q1ad (C:q19w) (v:q1a7):Dt q1ab:=(Dt.ret (v.1,v.2.1,v.2.2.2,v.2.2.1))
theorem q1ae C v:q3zc (regO (qcy f140) 3) false (an [0,1,6,11]) q1a8 q1ad q1ac C v:=rgI (by kernel_rfl)
abbrev q1af:Type:=Bool
def q1ag (v:q1af):St:=⟨[(12,.bool v)],[]⟩
def q1ah (C:q19w) (v:q1ab):Dt q1af:=(Dt.ret v.2.2.1)
theorem q1ai C v:q3zc (regO (qcy f140) 4) false [(12,.any)] q1ac q1ah q1ag C v:=rgI (by kernel_rfl)
abbrev q1aj:Type:=Int
def q1ak (v:q1aj):St:=⟨[(4,i6 v)],[]⟩
def q1al (C:q19w) (v:q1af):Dt q1aj:=(Dt.ret (0:Int))
theorem q1am C v:q3zc (regO (qcy f140) 5) false [(4,.any)] q1ag q1al q1ak C v:=rgI (by kernel_rfl)
def q1an (C:q19w) (v:q1af):Dt q1aj:=(Dt.ret (-1:Int))
theorem q1ao C v:q3zc (regO (qcy f140) 6) false [(4,.any)] q1ag q1an q1ak C v:=rgI (by kernel_rfl)
abbrev q1ap:Type:=Int×Int×Bool
def q1aq (v:q1ap):St:=⟨[(0,i6 v.1),(1,i6 v.2.1),(13,.bool v.2.2)],[]⟩
def q1ar (C:q19w) (v:q1ab):Dt q1ap:=(Dt.ret (v.1,v.2.1,v.2.2.1))
theorem q1as C v:q3zc (regO (qcy f140) 7) false (an [0,1,13]) q1ac q1ar q1aq C v:=rgI (by kernel_rfl)
def q1at (C:q19w) (v:q1ap):Dt q1aj:=(Dt.ret (1:Int))
theorem q1au C v:q3zc (regO (qcy f140) 8) false [(4,.any)] q1aq q1at q1ak C v:=rgI (by kernel_rfl)
abbrev q1av:Type:=Int×Int×Bool
def q1aw (v:q1av):St:=⟨[(0,i6 v.1),(1,i6 v.2.1),(16,.bool v.2.2)],[]⟩
def q1ax (C:q19w) (v:q1ap):Dt q1av:=(Dt.ret (v.1,v.2.1,(decide (v.1<v.2.1))))
theorem q1ay C v:q3zc (regO (qcy f140) 9) false (an [0,1,16]) q1aq q1ax q1aw C v:=rgI (by kernel_rfl)
def q1az (C:q19w) (v:q1av):Dt q1aj:=(Dt.ret (-1:Int))
theorem q1b0 C v:q3zc (regO (qcy f140) 10) false [(4,.any)] q1aw q1az q1ak C v:=rgI (by kernel_rfl)
abbrev q1b1:Type:=Bool
def q1b2 (v:q1b1):St:=⟨[(19,.bool v)],[]⟩
def q1b3 (C:q19w) (v:q1av):Dt q1b1:=(Dt.ret (decide (v.1 > v.2.1)))
theorem q1b4 C v:q3zc (regO (qcy f140) 11) false [(19,.any)] q1aw q1b3 q1b2 C v:=rgI (by kernel_rfl)
def q1b5 (C:q19w) (v:q1b1):Dt q1aj:=(Dt.ret (1:Int))
theorem q1b6 C v:q3zc (regO (qcy f140) 12) false [(4,.any)] q1b2 q1b5 q1ak C v:=rgI (by kernel_rfl)
def q1b7 (C:q19w) (v:q1b1):Dt q1aj:=(Dt.ret (0:Int))
theorem q1b8 C v:q3zc (regO (qcy f140) 13) false [(4,.any)] q1b2 q1b7 q1ak C v:=rgI (by kernel_rfl)
def q1b9 (d:Nat) (x:q19s):Option q19t :=
 (q1a1 (q19x d) (x.1.1,x.2.1.1)).eval fun y0 =>
 (q1a5 (q19x d) y0).eval fun y1 =>
 (q1a9 (q19x d) y1).eval fun y2 =>
 (q1ad (q19x d) y2).eval fun y3 =>
 bif y3.2.2.2 then ((q1ah (q19x d) y3).eval fun y4 =>
 bif y4 then ((q1al (q19x d) y4).eval fun y5 =>
 some y5) else ((q1an (q19x d) y4).eval fun y6 =>
 some y6)) else ((q1ar (q19x d) y3).eval fun y7 =>
 bif y7.2.2 then ((q1at (q19x d) y7).eval fun y8 =>
 some y8) else ((q1ax (q19x d) y7).eval fun y9 =>
 bif y9.2.2 then ((q1az (q19x d) y9).eval fun y10 =>
 some y10) else ((q1b3 (q19x d) y9).eval fun y11 =>
 bif y11 then ((q1b5 (q19x d) y11).eval fun y12 =>
 some y12) else ((q1b7 (q19x d) y11).eval fun y13 =>
 some y13))))
theorem q1ba (d:Nat):COK prog (q19v (q1b9 d)):=by
 have hm:prog.follows .mixedOrders=true:=qjt
 have hT:=tys
 have hC0:OrcOK prog (orc (q19y (q19x d))):=qcs (by
  intro S hS
  simp only [q19y,List.mem_cons,List.not_mem_nil,or_false] at hS
  subst hS;exact q19q d)
 have hC:OrcOK prog (orc (q19y (q19x d))):=hC0
 refine q8e (c:=qcy f140) (fn:=f140) hT (by kernel_rfl) (by kernel_rfl) (by decide) fun x r h w0 φ0 Q hend=>?_
 replace h:q1b9 d x=some r:=h
 unfold q1b9 at h
 show Run prog w0 φ0 20 (qcy f140) ⟨[(0,.int .i64 x.1.1),(1,.int .i64 x.2.1.1)],[]⟩ Q
 refine q3yx hm hT hC (q1a2 (q19x d) (x.1.1,x.2.1.1)) h fun y0 h=>?_
 refine q3yx hm hT hC (q1a6 (q19x d) y0) h fun y1 h=>?_
 refine q3yx hm hT hC (q1aa (q19x d) y1) h fun y2 h=>?_
 refine q7y ?_
 refine q3yx hm hT hC (q1ae (q19x d) y2) h fun y3 h=>?_
 refine q82 (v:=y3.2.2.2) (by kernel_rfl) h ?_ ?_
 ·
  intro h
  refine q7y ?_
  refine q3yx hm hT hC (q1ai (q19x d) y3) h fun y4 h=>?_
  refine q82 (v:=y4) (by kernel_rfl) h ?_ ?_
  ·
   intro h
   refine q3yx hm hT hC (q1am (q19x d) y4) h fun y5 h=>?_
   refine q7x (q7m (q7m ?_))
   cases h
   exact (hend _ (by kernel_rfl)).2
  ·
   intro h
   refine q7u (q7k ?_)
   refine q3yx hm hT hC (q1ao (q19x d) y4) h fun y6 h=>?_
   refine q7x (q7m ?_)
   cases h
   exact (hend _ (by kernel_rfl)).2
 ·
  intro h
  refine q7u (q7k (q7y ?_))
  refine q3yx hm hT hC (q1as (q19x d) y3) h fun y7 h=>?_
  refine q82 (v:=y7.2.2) (by kernel_rfl) h ?_ ?_
  ·
   intro h
   refine q3yx hm hT hC (q1au (q19x d) y7) h fun y8 h=>?_
   refine q7x (q7m ?_)
   cases h
   exact (hend _ (by kernel_rfl)).2
  ·
   intro h
   refine q7u (q7k (q7y ?_))
   refine q3yx hm hT hC (q1ay (q19x d) y7) h fun y9 h=>?_
   refine q82 (v:=y9.2.2) (by kernel_rfl) h ?_ ?_
   ·
    intro h
    refine q3yx hm hT hC (q1b0 (q19x d) y9) h fun y10 h=>?_
    refine q7x (q7m ?_)
    cases h
    exact (hend _ (by kernel_rfl)).2
   ·
    intro h
    refine q7u (q7k (q7y ?_))
    refine q3yx hm hT hC (q1b4 (q19x d) y9) h fun y11 h=>?_
    refine q82 (v:=y11) (by kernel_rfl) h ?_ ?_
    ·
     intro h
     refine q3yx hm hT hC (q1b6 (q19x d) y11) h fun y12 h=>?_
     refine q7x (q7m ?_)
     cases h
     exact (hend _ (by kernel_rfl)).2
    ·
     intro h
     refine q7u (q7k ?_)
     refine q3yx hm hT hC (q1b8 (q19x d) y11) h fun y13 h=>?_
     refine q7x ?_
     cases h
     exact (hend _ (by kernel_rfl)).2
abbrev q1bb:List Pk:=[.row RLiE false]
abbrev q1bc:Type:=DLiE×Unit
abbrev q1bd:Type:=Int
def q1be (r:q1bd):LV×List Ob:=(.int .i64 r,[])
def q1bf (F:q1bc→Option q1bd):Go.Tx.Spec:=⟨151,q1bb,q1bd,F,q1be⟩
abbrev q1bg:Type:=Unit
def q1bh (_d:Nat):q1bg:=()
def q1bi (C:q1bg):List Go.Tx.Spec:=[]
abbrev q1bj:Type:=List Di
def q1bk (v:q1bj):St:=⟨[(0,.fz Ri v)],[]⟩
def q1bl (C:q1bg) (v:q1bj):Dt q1bj:=(Dt.ret v)
abbrev q3zd {V Y:Type}:=@rg q1bg V Y tysT (fun C=>(orc (q1bi C))) 18
theorem q1bm C v:q3zd (regO (qcy f151) 0) false [(0,(.val Ri))] q1bk q1bl q1bk C v:=rgI (by kernel_rfl)
abbrev q1bn:Type:=List Di×Int
def q1bo (v:q1bn):St:=⟨[(0,.fz Ri v.1),(3,i6 v.2)],[]⟩
def q1bp (C:q1bg) (v:q1bj):Dt q1bn:=(Dt.ret (v,(0:Int)))
theorem q1bq C v:q3zd (regO (qcy f151) 1) false [(0,(.val Ri)),(3,.any)] q1bk q1bp q1bo C v:=rgI (by kernel_rfl)
abbrev q1br:Type:=Int×List Di×Int×Int
def q1bs (v:q1br):St:=⟨[(3,i6 v.1),(6,.fz Ri v.2.1),(7,i6 v.2.2.1),(8,i6 v.2.2.2)],[]⟩
def q1bt (C:q1bg) (v:q1bn):Dt q1br:=(Dt.ret (v.2,v.1,(List.length v.1:Int),(0:Int)))
theorem q1bu C v:q3zd (regO (qcy f151) 2) false [(3,.any),(6,(.val Ri)),(7,.any),(8,.any)] q1bo q1bt q1bs C v:=rgI (by kernel_rfl)
abbrev q1bv:Type:=Int×List Di×Int×Int×Bool
def q1bw (v:q1bv):St:=⟨[(3,i6 v.1),(6,.fz Ri v.2.1),(7,i6 v.2.2.1),(8,i6 v.2.2.2.1),(9,.bool v.2.2.2.2)],[]⟩
def q1bx (C:q1bg) (v:q1br):Dt q1bv:=(Dt.ret (v.1,v.2.1,v.2.2.1,v.2.2.2,(decide (v.2.2.2<v.2.2.1))))
theorem q1by C v:q3zd (regO (qcy f151) 3) false [(3,.any),(6,(.val Ri)),(7,.any),(8,.any),(9,.any)] q1bs q1bx q1bw C v:=rgI (by kernel_rfl)
abbrev q1bz:Type:=Int×Int×List Di×Int×Int
def q1c0 (v:q1bz):St:=⟨[(3,i6 v.1),(5,i6 v.2.1),(6,.fz Ri v.2.2.1),(7,i6 v.2.2.2.1),(8,i6 v.2.2.2.2)],[]⟩
def q1c1 (C:q1bg) (v:q1bv):Dt q1bz:=(Dt.ite (inB v.2.2.2.1 (List.length v.2.1)) (Dt.ret (v.1,(elt zi v.2.1 (v.2.2.2.1).toNat).1,v.2.1,v.2.2.1,v.2.2.2.1)) Dt.fail)
theorem q1c2 C v:q3zd (regO (qcy f151) 4) false [(3,.any),(5,.any),(6,(.val Ri)),(7,.any),(8,.any)] q1bw q1c1 q1c0 C v:=rgI (by kernel_rfl)
abbrev q1c3:Type:=Int×Int×List Di×Int×Int×Bool
def q1c4 (v:q1c3):St:=⟨[(3,i6 v.1),(5,i6 v.2.1),(6,.fz Ri v.2.2.1),(7,i6 v.2.2.2.1),(8,i6 v.2.2.2.2.1),(14,.bool v.2.2.2.2.2)],[]⟩
def q1c5 (C:q1bg) (v:q1bz):Dt q1c3:=(Dt.ret (v.1,v.2.1,v.2.2.1,v.2.2.2.1,v.2.2.2.2,(v.2.1!=v.1)))
theorem q1c6 C v:q3zd (regO (qcy f151) 5) false [(3,.any),(5,.any),(6,(.val Ri)),(7,.any),(8,.any),(14,.any)] q1c0 q1c5 q1c4 C v:=rgI (by kernel_rfl)
abbrev q1c7:Type:=Int
def q1c8 (v:q1c7):St:=⟨[(2,i6 v)],[]⟩
def q1c9 (C:q1bg) (v:q1c3):Dt q1c7:=(Dt.ret v.2.1)
theorem q1ca C v:q3zd (regO (qcy f151) 6) false [(2,.any)] q1c4 q1c9 q1c8 C v:=rgI (by kernel_rfl)
def q1cb (C:q1bg) (v:q1c3):Dt q1br:=(Dt.ret (v.1,v.2.2.1,v.2.2.2.1,(IntKind.wrap .i64 (v.2.2.2.2.1+(1:Int)))))
theorem q1cc C v:q3zd (regO (qcy f151) 7) false [(3,.any),(6,(.val Ri)),(7,.any),(8,.any)] q1c4 q1cb q1bs C v:=rgI (by kernel_rfl)
def q1cd (C:q1bg) (v:q1bv):Dt q1c7:=(Dt.ret v.1)
theorem q1ce C v:q3zd (regO (qcy f151) 8) false [(2,.any)] q1bw q1cd q1c8 C v:=rgI (by kernel_rfl)
def q1cf (d:Nat) (self1:(Int×List Di×Int×Int)→Option q1bd) (x1:Int×List Di×Int×Int):Option q1bd :=
 (q1bx (q1bh d) x1).eval fun y3 =>
 bif y3.2.2.2.2 then ((q1c1 (q1bh d) y3).eval fun y4 =>
 (q1c5 (q1bh d) y4).eval fun y5 =>
 bif y5.2.2.2.2.2 then ((q1c9 (q1bh d) y5).eval fun y6 =>
 some y6) else ((q1cb (q1bh d) y5).eval fun y7 =>
 self1 y7)) else ((q1cd (q1bh d) y3).eval fun y8 =>
 some y8)
def q1cg (d:Nat) (x:q1bc):Option q1bd :=
 (q1bl (q1bh d) x.1.1).eval fun y0 =>
 (q1bp (q1bh d) y0).eval fun y1 =>
 (q1bt (q1bh d) y1).eval fun y2 =>
 iter (q1cf d ) d y2
theorem q1ch (d:Nat):COK prog (q1bf (q1cg d)):=by
 have hm:prog.follows .mixedOrders=true:=qjt
 have hT:=tys
 have hC0:OrcOK prog (orc (q1bi (q1bh d))):=qcs (by
  intro S hS
  simp only [q1bi,List.mem_cons,List.not_mem_nil,or_false] at hS
  all_goals first | cases hS | exact hS.elim)
 have hC:OrcOK prog (orc (q1bi (q1bh d))):=hC0
 refine q8e (c:=qcy f151) (fn:=f151) hT (by kernel_rfl) (by kernel_rfl) (by decide) fun x r h w0 φ0 Q hend=>?_
 replace h:q1cg d x=some r:=h
 unfold q1cg at h
 show Run prog w0 φ0 18 (qcy f151) ⟨[(0,.fz Ri x.1.1)],[]⟩ Q
 refine q3yx hm hT hC (q1bm (q1bh d) x.1.1) h fun y0 h=>?_
 refine q3yx hm hT hC (q1bq (q1bh d) y0) h fun y1 h=>?_
 refine q7y ?_
 refine q3yx hm hT hC (q1bu (q1bh d) y1) h fun y2 h=>?_
 refine q7z ?_
 refine q84 (G:=iter (q1cf d )) (S:=(fun x1=>⟨[(3,i6 x1.1),(6,.fz Ri x1.2.1),(7,i6 x1.2.2.1),(8,i6 x1.2.2.2)],[]⟩:Int×List Di×Int×Int→St)) (fun _=>rfl) ?_ d _ h
 intro n1 x1 h K1 hn1
 replace h:q1cf d  (iter (q1cf d ) n1) x1=some r:=h
 generalize iter (q1cf d ) n1=self1 at h hn1
 unfold q1cf at h
 refine q3yx hm hT hC (q1by (q1bh d) x1) h fun y3 h=>?_
 refine q7y ?_
 refine q82 (v:=y3.2.2.2.2) (by kernel_rfl) h ?_ ?_
 ·
  intro h
  refine q7u (q7k (q7y (q7z ?_)))
  refine q3yx hm hT hC (q1c2 (q1bh d) y3) h fun y4 h=>?_
  refine q3yx hm hT hC (q1c6 (q1bh d) y4) h fun y5 h=>?_
  refine q82 (v:=y5.2.2.2.2.2) (by kernel_rfl) h ?_ ?_
  ·
   intro h
   refine q3yx hm hT hC (q1ca (q1bh d) y5) h fun y6 h=>?_
   refine q7x (q7o (q7m (q7m (q7o (q7m ?_)))))
   cases h
   exact (hend _ (by kernel_rfl)).2
  ·
   intro h
   refine q7u (q7n (q7k ?_))
   refine q83 hm hT hC (q1cc (q1bh d) y5) h ?_
   intro y7 h
   exact hn1 _ h
 ·
  intro h
  refine q7w (q7l (q7l (q7p (q7k ?_))))
  refine q3yx hm hT hC (q1ce (q1bh d) y3) h fun y8 h=>?_
  refine q7x ?_
  cases h
  exact (hend _ (by kernel_rfl)).2
abbrev q1ci:List Pk:=[.row qje true,.row qje true]
abbrev q1cj:Type:=qjf×qjf×Unit
abbrev q1ck:Type:=Int
def q1cl (r:q1ck):LV×List Ob:=(.int .i64 r,[])
def q1cm (F:q1cj→Option q1ck):Go.Tx.Spec:=⟨113,q1ci,q1ck,F,q1cl⟩
abbrev q1cn:Type:=(q16d→Option q16e)×(q19s→Option q19t)×(q1bc→Option q1bd)×Unit
def q1co (d:Nat):q1cn:=(q16y d,q1b9 d,q1cg d,())
def q1cp (C:q1cn):List Go.Tx.Spec:=[q16g C.1,q19v C.2.1,q1bf C.2.2.1]
abbrev q1cq:Type:=Int×Int×Int×Int×Int×Int×Int×Int
def q1cr (v:q1cq):St:=⟨[(0,.agg [i6 v.1,i6 v.2.1,i6 v.2.2.1,i6 v.2.2.2.1]),(1,.agg [i6 v.2.2.2.2.1,i6 v.2.2.2.2.2.1,i6 v.2.2.2.2.2.2.1,i6 v.2.2.2.2.2.2.2])],[]⟩
abbrev q1cs:Type:=Int×Int×Int×Int×Int×Int×Int×Int
def q1ct (v:q1cs):St:=⟨[(2,.ptr 0 0),(3,.ptr 1 0)],[.cells [i6 v.1,i6 v.2.1,i6 v.2.2.1,i6 v.2.2.2.1],.cells [i6 v.2.2.2.2.1,i6 v.2.2.2.2.2.1,i6 v.2.2.2.2.2.2.1,i6 v.2.2.2.2.2.2.2]]⟩
def q1cu (C:q1cn) (v:q1cq):Dt q1cs:=(Dt.ret (v.1,v.2.1,v.2.2.1,v.2.2.2.1,v.2.2.2.2.1,v.2.2.2.2.2.1,v.2.2.2.2.2.2.1,v.2.2.2.2.2.2.2))
abbrev q3ze {V Y:Type}:=@rg q1cn V Y tysT (fun C=>(orc (q1cp C))) 22
theorem q1cv C v:q3ze (regO (qcy f113) 0) false (an [2,3]) q1cr q1cu q1ct C v:=rgI (by kernel_rfl)
abbrev q1cw:Type:=Int
def q1cx (v:q1cw):St:=⟨[(4,i6 v)],[]⟩
def q1cy (C:q1cn) (v:q1cs):Dt q1cw:=(Dt.bnd (C.1 ((v.1,v.2.1,()),(v.2.2.2.2.1,v.2.2.2.2.2.1,()),())) fun r1=>(Dt.bnd (C.2.1 ((v.2.2.1,()),(v.2.2.2.2.2.2.1,()),())) fun r2=>(Dt.bnd (C.2.1 ((v.2.2.2.1,()),(v.2.2.2.2.2.2.2,()),())) fun r3=>(Dt.bnd (C.2.2.1 ((([(r1,()),(r2,()),(r3,())]:List Di),()),())) fun r4=>(Dt.ret r4)))))
theorem q1cz C v:q3ze (regO (qcy f113) 1) true [(4,.any)] q1ct q1cy q1cx C v:=rgI (by kernel_rfl)
def q1d0 (d:Nat) (x:q1cj):Option q1ck :=
 (q1cu (q1co d) (x.1.1,x.1.2.1,x.1.2.2.1,x.1.2.2.2.1,x.2.1.1,x.2.1.2.1,x.2.1.2.2.1,x.2.1.2.2.2.1)).eval fun y0 =>
 (q1cy (q1co d) y0).eval fun y1 =>
 some y1
theorem q1d1 (d:Nat):COK prog (q1cm (q1d0 d)):=by
 have hm:prog.follows .mixedOrders=true:=qjt
 have hT:=tys
 have hC0:OrcOK prog (orc (q1cp (q1co d))):=qcs (by
  intro S hS
  simp only [q1cp,List.mem_cons,List.not_mem_nil,or_false] at hS
  rcases hS with rfl | rfl | rfl
  · exact q16z d
  · exact q1ba d
  · exact q1ch d)
 have hC:OrcOK prog (orc (q1cp (q1co d))):=hC0
 refine q8e (c:=qcy f113) (fn:=f113) hT (by kernel_rfl) (by kernel_rfl) (by decide) fun x r h w0 φ0 Q hend=>?_
 replace h:q1d0 d x=some r:=h
 unfold q1d0 at h
 show Run prog w0 φ0 22 (qcy f113) ⟨[(0,.agg [.int .i64 x.1.1,.int .i64 x.1.2.1,.int .i64 x.1.2.2.1,.int .i64 x.1.2.2.2.1]),(1,.agg [.int .i64 x.2.1.1,.int .i64 x.2.1.2.1,.int .i64 x.2.1.2.2.1,.int .i64 x.2.1.2.2.2.1])],[]⟩ Q
 refine q3yx hm hT hC (q1cv (q1co d) (x.1.1,x.1.2.1,x.1.2.2.1,x.1.2.2.2.1,x.2.1.1,x.2.1.2.1,x.2.1.2.2.1,x.2.1.2.2.2.1)) h fun y0 h=>?_
 refine q3yx hm hT hC (q1cz (q1co d) y0) h fun y1 h=>?_
 refine q7x ?_
 cases h
 exact (hend _ (by kernel_rfl)).2
end Go.Proofs.YtpfhgnccpiildaaGreat

namespace Go.Tx
open Go
def q1d2 (x y c:Int):Option (Int×Int):=bif decide (0≤x)&&decide (x<18446744073709551616)&&decide (0≤y)&&decide (y<18446744073709551616)&&decide (0≤c)&&decide (c≤1) then some ((x+y+c) % 18446744073709551616,(x+y+c) / 18446744073709551616) else none
def q1d3 (x y c:Int):Option (Int×Int):=bif decide (0≤x)&&decide (x<18446744073709551616)&&decide (0≤y)&&decide (y<18446744073709551616)&&decide (0≤c)&&decide (c≤1) then some ((x - y - c) % 18446744073709551616,bif decide (x<y+c) then 1 else 0) else none
def orcI (f:FuncId) (G:Int→Int→Int→Option (Int×Int)) (C:Orc):Orc:=fun h args H =>
  bif Nat.beq h f then (match args with
    | [.int .u64 x,.int .u64 y,.int .u64 c]=>some ⟨Int×Int,G x y c,fun r=>(.tup [.int .u64 r.1,.int .u64 r.2],H)⟩
    | _=>none) else C h args H
theorem q1d4 {P:Program} {f:FuncId} {G:Int→Int→Int→Option (Int×Int)} (hG:∀ x y c r,G x y c=some r→∀ w,(callFunc f #[.int .u64 x,.int .u64 y,.int .u64 c]).run P w=.ok (.value (.tuple #[.int .u64 r.1,.int .u64 r.2])) w) {C:Orc} (hC:OrcOK P C):OrcOK P (orcI f G C):=by
  refine ⟨fun h args H p x hp hx=>?_⟩
  unfold orcI at hp
  rw [Bool.cond_eq_ite] at hp
  split at hp
  · rename_i he
    have he:=Nat.eq_of_beq_eq_true he
    subst he
    split at hp
    · rename_i x0 y0 c0
      injection hp with hp;subst hp
      refine .inr ⟨rfl,fun η w vs hv=>?_⟩
      obtain ⟨v0,vs',rfl,q0,hv⟩:=hv.uncons
      obtain ⟨v1,v2,rfl,q1,q2⟩:=vrs2 hv
      cases q0;cases q1;cases q2
      exact ⟨_,hG x0 y0 c0 x hx w,.tup rfl (VRs.cons (.int _ _) (VRs.cons (.int _ _) VRs.nil)).2⟩
    · cases hp
  · exact hC.call h args H p x hp hx
theorem q1d5 {x y c:Int} {r:Int×Int} (h:q1d2 x y c=some r):∃ a b d:Nat,x=a∧y=b∧c=d∧a<18446744073709551616∧b<18446744073709551616∧d≤1∧r=((((a+b+d) % 18446744073709551616:Nat):Int),(((a+b+d) / 18446744073709551616:Nat):Int)):=by
  unfold q1d2 at h
  rw [Bool.cond_eq_ite] at h
  split at h
  · rename_i hc
    simp only [Bool.and_eq_true,decide_eq_true_eq] at hc
    injection h with h
    refine ⟨x.toNat,y.toNat,c.toNat,by omega,by omega,by omega,by omega,by omega,by omega,?_⟩
    rw [← h]
    refine Prod.ext ?_ ?_<;>simp only<;>omega
  · cases h
theorem q1d6 {x y c:Int} {r:Int×Int} (h:q1d3 x y c=some r):∃ a b d:Nat,x=a∧y=b∧c=d∧a<18446744073709551616∧b<18446744073709551616∧d≤1∧r=((((a+18446744073709551616 - b - d) % 18446744073709551616:Nat):Int),((if a<b+d then 1 else 0:Nat):Int)):=by
  unfold q1d3 at h
  rw [Bool.cond_eq_ite] at h
  split at h
  · rename_i hc
    simp only [Bool.and_eq_true,decide_eq_true_eq] at hc
    injection h with h
    refine ⟨x.toNat,y.toNat,c.toNat,by omega,by omega,by omega,by omega,by omega,by omega,?_⟩
    rw [← h]
    refine Prod.ext ?_ ?_
    · simp only;omega
    · simp only [Bool.cond_eq_ite, decide_eq_true_eq]
      split<;>split<;>first | rfl | omega
  · cases h
end Go.Tx

namespace Go.Proofs.YtpfhgnccpiildaaGreat
open Go Go.Tx Go.Proofs.Tryz
theorem q1d7:∀ x y c r,q1d2 x y c=some r→∀ w,(callFunc 145 #[.int .u64 x,.int .u64 y,.int .u64 c]).run Tryz.prog w=.ok (.value (.tuple #[.int .u64 r.1,.int .u64 r.2])) w:=by
  intro x y c r h w
  obtain ⟨a,b,d,rfl,rfl,rfl,ha,hb,hd,rfl⟩:=q1d5 h
  rw [run_callFunc_extern Tryz.func145 (by kernel_rfl) (by kernel_rfl) (by kernel_rfl) (e:=add64Entry) (by kernel_rfl),run_add64 a b d (by omega) (by omega) (by omega) (by omega)]
  simp only [Result.andThen]
  congr 5<;>omega
theorem q1d8:∀ x y c r,q1d3 x y c=some r→∀ w,(callFunc 106 #[.int .u64 x,.int .u64 y,.int .u64 c]).run Tryz.prog w=.ok (.value (.tuple #[.int .u64 r.1,.int .u64 r.2])) w:=by
  intro x y c r h w
  obtain ⟨a,b,d,rfl,rfl,rfl,ha,hb,hd,rfl⟩:=q1d6 h
  rw [run_callFunc_extern Tryz.func106 (by kernel_rfl) (by kernel_rfl) (by kernel_rfl) (e:=sub64Entry) (by kernel_rfl),run_sub64 a b d hd]
  rfl
end Go.Proofs.YtpfhgnccpiildaaGreat
