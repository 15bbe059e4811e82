/- Walks of the references; the orders agree; examples. -/
import Derived.RangeFuncRecord
import Derived.RangeFuncSeq
import Derived.RangeFuncBound
import Derived.Shelf.Abstract
import Derived.Shelf.RegionOpen
import Derived.WalkKit
import Derived.OwnWalkIn
import Derived.TacticsInMore
import Derived.LoopNIn
import Derived.LoopIn
import Derived.Shelf.SlSortCmp.NoneTotal
import Derived.Test.YtpfhgnccpiildaaGreatProg
import Derived.Shelf.Spec.BitsCarry
import Derived.Test.YtpfhgnccpiildaaGreatGc
set_option linter.unusedSimpArgs false
set_option linter.unusedVariables false
namespace Go.Pel
open Go Go.RowKit
def ordK (l:List Pt) (n d:Int) (k:Nat):List Int:=(l.take k).foldl (fun acc p=>acc.set (qs2 l p n d) p.id) (List.replicate l.length 0)
theorem qsa (l:List Pt) (n d:Int) (k:Nat):(ordK l n d k).length=l.length:=by
  unfold ordK
  have:∀ (m:List Pt) (acc:List Int),(m.foldl (fun acc p=>acc.set (qs2 l p n d) p.id) acc).length=acc.length:=by
    intro m;induction m with
    | nil=>intro acc;rfl
    | cons a r ih=>intro acc;rw [List.foldl_cons,ih,List.length_set]
  rw [this,List.length_replicate]
theorem qsb {l:List Pt} {n d:Int} {k:Nat} {p:Pt} (h:l[k]?=some p):ordK l n d (k+1)=(ordK l n d k).set (qs2 l p n d) p.id:=by
  unfold ordK
  rw [List.take_add_one,h,List.foldl_append];rfl
theorem qsc {l:List Pt} {p:Pt} (h:p∈l) (n d:Int):qs2 l p n d<l.length:=by
  unfold qs2
  rw [List.length_filter_lt_length_iff_exists]
  exact ⟨p,h,by simp⟩
theorem qsd (l:List Int) (k:Nat) (x:Int):vi (l.set k x)=(vi l).set k (.int .i64 x):=by simp [vi,List.map_set]
theorem qse {l:List Int} {k:Nat} (h:k<l.length):∃ x,(vi l)[k]?=some (.int .i64 x):=⟨l[k],by simp [vi,h]⟩
end Go.Pel
namespace Go.Proofs.YtpfhgnccpiildaaGreat
open Go.RowKit Go.Pel
theorem qsf (A:Option Addr) (c:Nat) (l:List Pt) (p:Pt) (n d:Int) (R:Nat) (hR:qs2 l p n d=R) (w:World) (hs:Sl w 3 A l.length c (vp l)) (hl:l.length≤1000000) (hin:∀ q∈l,CmpIn q p n d) :
    Calls Tryz.prog 158 #[.agg #[.slice A l.length c],.agg #[.int .i64 p.id,.int .i64 p.a,.int .i64 p.b],.agg #[.int .i64 n,.int .i64 d]] w fun e w'=>e=.returned (.int .i64 (R:Int))∧∃ x,w'=ext w x:=hR ▸ qs9 A c l p n d w hs hl hin
set_option maxRecDepth 10000 in
set_option maxHeartbeats 2000000 in
theorem qsg (A:Option Addr) (c:Nat) (l:List Pt) (n d:Int) (w:World) (hs:Sl w 3 A l.length c (vp l)) (hl:l.length≤1000000) (hin:∀ p∈l,∀ q∈l,CmpIn q p n d) :
    Calls Tryz.prog 132 #[.agg #[.slice A l.length c],.agg #[.int .i64 n,.int .i64 d]] w fun e w'=>∃ A' c',e=.returned (.slice A' l.length c')∧∃ x,w'=ext w x∧Own (ext w x) w.heap.size 3 1 A' l.length c' (vi (ordK l n d l.length)):=by
  have HIN:=Lib.hid hin;clear hin
  go_enter Tryz.func132,Tryz.ntmps132
  go_wp2_with (refine qec qru (Bel.refl _) (n:=l.length) (by omega) rfl _ _ rfl rfl rfl ?_;rintro g y hg hown;rw [qrv] at hown)
  go_loopw [6] (fun i wr=>∃ (k:Nat) (y:Beyond),k≤l.length∧i=.int .i64 k∧wr=ext ((w.alloc (.cells #[.slice A l.length c] 24)).alloc (.cells #[.int .i64 n,.int .i64 d] 26)) y∧Own (ext ((w.alloc (.cells #[.slice A l.length c] 24)).alloc (.cells #[.int .i64 n,.int .i64 d] 26)) y) (w.heap.size+2) 3 1 (some ⟨g,0,none⟩) l.length l.length (vi (ordK l n d k))) (fun i _=>l.length - (intOf i).toNat)
  case atStart=>exact ⟨0,y,Nat.zero_le _,rfl,rfl,by simpa [ordK,vi,go_sem] using hown⟩
  case round =>
    obtain ⟨k,y3,hk,rfl,rfl,own3⟩:=hrel
    have hg2:=own3.ats
    clear hown
    by_cases hlt:k<l.length
    · obtain ⟨p, hp⟩ : ∃ p, l[k]? = some p := ⟨_, List.getElem?_eq_getElem hlt⟩
      have HS:=Lib.hid (qsb (n:=n) (d:=d) hp)
      have hpm:=List.mem_of_getElem? hp
      have hR:=qsc hpm n d
      obtain ⟨R,hR'⟩:∃ R,qs2 l p n d=R:=⟨_,rfl⟩
      have q1:=Lib.hid (fun W hb=>qsf A c l p n d R hR' W (hs.bel (w':=W) hb) hl (HIN.out p hpm))
      rw [hR'] at HS hR
      obtain ⟨u,hu⟩:=qse (l:=ordK l n d k) (k:=R) (by rw [qsa];exact hR)
      have b0:=qee own3 hu
      have z0:=qef own3 R
      obtain ⟨b,o,rfl,hb2⟩:=hs.at_ (by omega)
      obtain ⟨r0,r1,r2⟩:=qfu hs hp
      have hlt':(k:Int)<(l.length:Int):=by omega
      have hRl:(R:Int)<(l.length:Int):=by omega
      have hgs:=hg2.2
      simp [go_sem] at hgs
      clear hp hR' hu hg2 hpm hR
      go_wp2
      ((first | refine RegC.wp_region_tail1 16 (by kernel_rfl) (by kernel_rfl) ?_ | refine RegC.wp_region_tail0 16 (by kernel_rfl) (by kernel_rfl) ?_);simp only [List.take_succ_cons,List.take_zero,List.drop_succ_cons,List.drop_zero];(repeat (any_goals (first | go_big_quiet_step ((go_at_call 158;with_reducible first | exact Calls.ext_of1 (q1.out _ (by (try simp only [qbh]);repeat (first | exact Bel.refl _ | assumption | refine qbq ?_ _ | refine qbr ?_ _ | refine Bel.ext ?_ _ | refine Bel.alloc ?_ _ | refine Bel.drewN ?_ _))) | exact Calls.ext_of (q1.out _ (by (try simp only [qbh]);repeat (first | exact Bel.refl _ | assumption | refine qbq ?_ _ | refine qbr ?_ _ | refine Bel.ext ?_ _ | refine Bel.alloc ?_ _ | refine Bel.drewN ?_ _))))) | (refine RegC.wpQuiet_split rfl rfl (fun hb=>?_) (fun hb=>?_)<;>simp only [hb]))));all_goals (refine wpQuiet_nil ?_;rintro _ ⟨nq,rfl⟩))
      go_wp2
      go_roundw
      case rel =>
        obtain ⟨y5,hy5,own5⟩:=qf3 ((q8h _ (y3.and nq)).setCell (p:=⟨g,R,none⟩) hg (.int .i64 p.id)) (World.ownsRow.stored (own3.bel (qbq (Bel.refl _) nq)) R (.int .i64 p.id)).1 (Bel.refl _)
        rw [← qsd,← HS.out] at own5
        exact ⟨k+1,y5,by omega,by go_num,hy5,own5⟩
      case measure=>(first | (simp [intOf];done) | (simp [intOf];omega))
    · obtain rfl : k = l.length := by omega
      go_wp2
      refine bodyPost_ret (v:=.slice (some ⟨g,0,none⟩) l.length l.length) (by simp [results,Tryz.results132,go_sem]) rfl ?_
      exact ⟨_,_,rfl,qf3 (by (try simp only [qbh]);repeat (first | exact Bel.refl _ | assumption | refine qbq ?_ _ | refine qbr ?_ _ | refine Bel.ext ?_ _ | refine Bel.alloc ?_ _ | refine Bel.drewN ?_ _)) (own3.base_le (by omega)) (Bel.refl _)⟩
end Go.Proofs.YtpfhgnccpiildaaGreat

namespace Go
open RowKit
def qsh (o:Obj):Prop:=∀ cs e f,o ≠ .cells cs e f
structure Records (b:Nat) (W W':World):Prop where
  keep:∀ (k:Nat) (o:Obj),b≤k→W.heap[k]?=some o→qsh o→W'.heap[k]?=some o
theorem Records.refl (b:Nat) (W:World):Records b W W:=⟨fun _ _ _ h _=>h⟩
theorem Records.trans {b:Nat} {A B D:World} (h:Records b A B) (k:Records b B D):Records b A D:=⟨fun i o hb h1 h2=>k.keep i o hb (h.keep i o hb h1 h2) h2⟩
theorem Records.bel {b:Nat} {A B:World} (h:Bel A B):Records b A B:=⟨fun k o _ h1 _=>by
  have hl:k<A.heap.size:=(Array.getElem?_eq_some_iff.1 h1).1
  rw [h.block k hl];exact h1⟩
section
variable {F:Fence} {n:Nat} {P:Program}
end
end Go

namespace Go
namespace RegC
section
variable {P:Program} {ops:Array Oper} {md:Region.Mode} {Q:Exit→Act→World→Prop} {l n:Nat}
end
section
variable {P:Program} {C:World→Prop} {l n:Nat}
end
end RegC
end Go

namespace Go.Tx
open Go Go.RegC
section
variable {P:Program} {V:Nat→Value→Prop} {Q:Exit→Act→World→Prop} {ops:Array Oper}
end
section
variable {P:Program} {T:Tys} {C:Orc} {N l:Nat} {V:Nat→Value→Prop} {w0:World} {φ0:Fz0} {Q:Exit→Act→World→Prop}
end
structure OnlyB (b:Nat) (A B:World):Prop where
  size:B.heap.size=A.heap.size
  same:∀ k,k≠b→B.heap[k]?=A.heap[k]?
  os:B.os=A.os
  tape:B.tape=A.tape
  output:B.output=A.output
  drawn:B.drawn=A.drawn
theorem OnlyB.put (A:World) (b:Nat) (o:Obj):OnlyB b A (A.putObj b o):=⟨by rw [World.putObj_size],fun k hk=>World.putObj_heap_other hk,rfl,rfl,rfl,rfl⟩
theorem HR.only {M:Nat} {η:Emb} {H:LH} {A B:World} {b:Nat} (h:HR M η H A) (hb:OnlyB b A B) (hl:¬ LB H η b) (hf:η.fz b=none):HR M η H B where
  dom:=h.dom
  lt:=h.lt
  live k ob hk:=(h.live k ob hk).move (Emb.le_refl _) rfl (Nat.le_of_eq hb.size.symm) fun L hL=>hb.same _ fun he=>hl ⟨k,ob,L,hk,hL,he⟩
  inj:=h.inj
  fz k ob hk:=by rw [hb.same k fun he=>by rw [he,hf] at hk;cases hk];exact h.fz k ob hk
  sep:=h.sep
  ok:=h.ok
theorem Fr.only {w0:World} {φ0:Fz0} {H:LH} {η:Emb} {A B:World} {b:Nat} (h:Fr w0 φ0 H η A) (hb:OnlyB b A B) (h0:w0.heap.size≤b) (hk:∀ o,¬ φ0.K b o):Fr w0 φ0 H η B where
  size:=by rw [hb.size];exact h.size
  same k hlt:=(hb.same k (by omega)).trans (h.same k hlt)
  lb:=h.lb
  fz0:=h.fz0
  fzn:=h.fzn
  os:=hb.os.trans h.os
  tape:=hb.tape.trans h.tape
  output:=hb.output.trans h.output
  drawn:=by rw [hb.drawn];exact h.drawn
  kp k o ho:=by
    obtain ⟨h1,h2,h3⟩:=h.kp k o ho
    exact ⟨(hb.same k fun he=>hk o (by rw [← he];exact ho)).trans h1,h2,h3⟩
section
open Go.RowKit
variable {F:Fence} {n:Nat} {P:Program}
end
end Go.Tx

namespace Go.Tx
open Go
def SX (w0:World) (φ0:Fz0) (tm:List (Nat×LV)) (ob:List Ob) (a:Act) (kb r:Nat) (T:Nat→Prop) (W:World):Prop :=
  ∃ η,(∀ M,HR M η (q6n ob) W)∧(∀ n l,(n,l)∈tm→∃ v,a.tmps[n]?=some v∧VR η l v)∧Fr w0 φ0 (q6n ob) η W∧(∀ k,k=kb∨k=r∨k=r+1∨T k→¬ LB (q6n ob) η k∧η.fz k=none)∧r+1<W.heap.size∧∀ k,T k→r+1<k∧k<W.heap.size
theorem SX.only {w0:World} {φ0:Fz0} {tm:List (Nat×LV)} {ob:List Ob} {a:Act} {kb r b:Nat} {T:Nat→Prop} {A B:World} (h:SX w0 φ0 tm ob a kb r T A) (hb:OnlyB b A B) (hbb:b=kb∨b=r∨b=r+1) (h0:w0.heap.size≤b) (hk:∀ o,¬ φ0.K b o):SX w0 φ0 tm ob a kb r T B:=by
  obtain ⟨η,h1,h2,h3,h4,h5,h6⟩:=h
  obtain ⟨g1,g2⟩:=h4 b (hbb.imp id (Or.imp id .inl))
  exact ⟨η,fun M=>(h1 M).only hb g1 g2,h2,h3.only hb h0 hk,h4,by rw [hb.size];exact h5,fun k hk=>by rw [hb.size];exact h6 k hk⟩
theorem HR.grow {M:Nat} {η:Emb} {H:LH} {A B:World} (h:HR M η H A) (hb:Bel A B):HR M η H B where
  dom:=h.dom
  lt:=h.lt
  live k ob hk:=(h.live k ob hk).move (Emb.le_refl _) rfl hb.size fun L hL=>hb.block _ ((h.live k ob hk).lt hL)
  inj:=h.inj
  fz k ob hk:=by rw [hb.block k (Array.getElem?_eq_some_iff.1 (h.fz k ob hk)).1];exact h.fz k ob hk
  sep:=h.sep
  ok:=h.ok
theorem Fr.grow {w0:World} {φ0:Fz0} {H:LH} {η:Emb} {A B:World} (h:Fr w0 φ0 H η A) (hb:Bel A B):Fr w0 φ0 H η B where
  size:=Nat.le_trans h.size hb.size
  same k hlt:=(hb.block k (Nat.lt_of_lt_of_le hlt h.size)).trans (h.same k hlt)
  lb:=h.lb
  fz0:=h.fz0
  fzn:=h.fzn
  os:=hb.os.trans h.os
  tape:=hb.tape.trans h.tape
  output:=hb.output.trans h.output
  drawn:=Nat.le_trans h.drawn hb.mono
  kp k o ho:=by
    obtain ⟨h1,h2,h3⟩:=h.kp k o ho
    exact ⟨(hb.block k (Array.getElem?_eq_some_iff.1 h1).1).trans h1,h2,h3⟩
theorem SX.grow {w0:World} {φ0:Fz0} {tm:List (Nat×LV)} {ob:List Ob} {a:Act} {kb r:Nat} {T:Nat→Prop} {A B:World} (h:SX w0 φ0 tm ob a kb r T A) (hb:Bel A B):SX w0 φ0 tm ob a kb r (fun k=>T k∨(A.heap.size≤k∧k<B.heap.size)) B:=by
  obtain ⟨η,h1,h2,h3,h4,h5,h6⟩:=h
  refine ⟨η,fun M=>(h1 M).grow hb,h2,h3.grow hb,fun k hk=>?_,Nat.lt_of_lt_of_le h5 hb.size,fun k hk=>?_⟩
  · rcases hk with hk | hk | hk | hk | ⟨hk, _⟩
    · exact h4 k (.inl hk)
    · exact h4 k (.inr (.inl hk))
    · exact h4 k (.inr (.inr (.inl hk)))
    · exact h4 k (.inr (.inr (.inr hk)))
    · refine ⟨fun ⟨j, ob', L, hj, hL, he⟩ => ?_, ?_⟩
      · have:=((h1 0).live j ob' hj).lt hL;omega
      · cases hf : η.fz k with
        | none=>rfl
        | some o=>have:=(Array.getElem?_eq_some_iff.1 ((h1 0).fz k o hf)).1;omega
  · rcases hk with hk | ⟨hk, hk2⟩
    · obtain ⟨g1, g2⟩ := h6 k hk
      exact ⟨g1,Nat.lt_of_lt_of_le g2 hb.size⟩
    · exact ⟨by omega,hk2⟩
section
variable {P:Program} {N:Nat} {w0:World} {φ0:Fz0} {Q:Exit→Act→World→Prop}
end
end Go.Tx

namespace Go.Tx
open Go Go.RegC
end Go.Tx

namespace Go.Tx
open Go Go.Sort Go.RowKit Go.Proofs Go.Shelf
section
variable {τ:Row} (F:den τ×den τ×Unit→Option Int)
end
def insL {α:Type} (lt:α→α→Bool) (x:α):List α→List α
  | []=>[x]
  | y :: ys=>bif lt x y then x :: y :: ys else y :: insL lt x ys
def qu1 {α:Type} (lt:α→α→Bool):List α→List α
  | []=>[]
  | x :: xs=>insL lt x (qu1 lt xs)
theorem qu3 {α:Type} (lt:α→α→Bool) (x:α):∀ l:List α,(insL lt x l).Perm (x :: l)
  | []=>.refl _
  | y :: ys => by
    rw [insL]
    cases lt x y with
    | true=>exact .refl _
    | false=>exact ((qu3 lt x ys).cons y).trans (.swap x y ys)
theorem qu4 {α:Type} (lt:α→α→Bool):∀ l:List α,(qu1 lt l).Perm l
  | []=>.refl _
  | x :: xs=>by rw [qu1];exact (qu3 lt x _).trans ((qu4 lt xs).cons x)
theorem qu5 {α:Type} {lt:α→α→Bool} {S:α→Prop} (has:∀ a b,S a→S b→lt a b=true→lt b a=false) (hn:∀ a b c,S a→S b→S c→lt a b=false→lt b c=false→lt a c=false) {x:α} (hx:S x):∀ l:List α,(∀ a∈l,S a)→l.Pairwise (fun a b=>lt b a=false)→(insL lt x l).Pairwise (fun a b=>lt b a=false)
  | [],_,_=>List.pairwise_singleton _ _
  | y :: ys, hS, hp => by
    obtain ⟨h1,h2⟩:=List.pairwise_cons.1 hp
    have hy:=hS y (List.mem_cons_self ..)
    rw [insL]
    cases hl:lt x y with
    | true =>
      refine List.pairwise_cons.2 ⟨fun b hb=>?_,hp⟩
      have hyx:=has x y hx hy hl
      rcases List.mem_cons.1 hb with rfl | hb
      · exact hyx
      · exact hn b y x (hS b (List.mem_cons_of_mem _ hb)) hy hx (h1 b hb) hyx
    | false =>
      refine List.pairwise_cons.2 ⟨fun b hb=>?_,qu5 has hn hx ys (fun a ha=>hS a (List.mem_cons_of_mem _ ha)) h2⟩
      rcases List.mem_cons.1 ((qu3 lt x ys).mem_iff.1 hb) with rfl | hb
      · exact hl
      · exact h1 b hb
theorem qu6 {α:Type} {lt:α→α→Bool} {S:α→Prop} (has:∀ a b,S a→S b→lt a b=true→lt b a=false) (hn:∀ a b c,S a→S b→S c→lt a b=false→lt b c=false→lt a c=false):∀ l:List α,(∀ a∈l,S a)→(qu1 lt l).Pairwise (fun a b=>lt b a=false)
  | [],_=>.nil
  | x :: xs, hS => by
    rw [qu1]
    exact qu5 has hn (hS x (List.mem_cons_self ..)) _ (fun a ha=>hS a (List.mem_cons_of_mem _ ((qu4 lt xs).mem_iff.1 ha))) (qu6 has hn xs fun a ha=>hS a (List.mem_cons_of_mem _ ha))
section
variable {P:Program} {ρ:Ren}
end
end Go.Tx

namespace Go.Proofs.YtpfhgnccpiildaaGreat
open Go Go.Tx Go.RowKit Go.Pel
end Go.Proofs.YtpfhgnccpiildaaGreat

namespace Go.Pel
open Go Go.Tx
theorem qun {l:List Pt} (h:incB l=true):(l.map Pt.id).Nodup:=by
  unfold List.Nodup
  rw [List.pairwise_iff_getElem]
  intro i j hi hj hij
  simp only [List.length_map] at hi hj
  have:=qfw h hij (List.getElem?_eq_getElem hi) (List.getElem?_eq_getElem hj)
  simp;omega
theorem qup (p q:Pt) (n d:Int):leads p q n d=true↔(q.a*d+q.b*n<p.a*d+p.b*n)∨(q.a*d+q.b*n=p.a*d+p.b*n∧(q.b<p.b∨(q.b=p.b∧p.id<q.id))):=by
  have e:farD p q n d=(p.a*d+p.b*n) - (q.a*d+q.b*n):=by unfold farD;rw [Int.sub_mul,Int.sub_mul];omega
  unfold leads
  rw [e]
  generalize p.a*d+p.b*n=P
  generalize q.a*d+q.b*n=Q
  repeat' split
  all_goals simp only [decide_eq_true_eq]
  all_goals omega
def ordI (n d:Int) (l:List Pt):List Pt:=qu1 (fun p q=>leads p q n d) l
def quq (l:List Pt) (n d:Int):List Int×Int:=if qfx l≠0 then ([],qfx l) else if qcv n d≠0 then ([],qcv n d) else ((ordI n d l).map Pt.id,0)
theorem qur (n d:Int) (l:List Pt):(ordI n d l).Perm l:=qu4 _ l
theorem qus {p q:Pt} {n d:Int} (h:leads p q n d=false):¬ ((q.a*d+q.b*n<p.a*d+p.b*n)∨(q.a*d+q.b*n=p.a*d+p.b*n∧(q.b<p.b∨(q.b=p.b∧p.id<q.id)))):=by
  intro k;rw [(qup p q n d).2 k] at h;cases h
theorem qut (n d:Int) (l:List Pt):(ordI n d l).Pairwise fun p q=>leads q p n d=false:=by
  refine qu6 (S:=fun _=>True) (fun a b _ _ h=>?_) (fun a b c _ _ _ h1 h2=>?_) l (fun _ _=>trivial)
  · rw [qup] at h
    rw [← Bool.not_eq_true,qup];omega
  · have h1 := qus h1
    have h2:=qus h2
    rw [← Bool.not_eq_true,qup];omega
theorem quu {n d:Int} {l:List Pt} (hinc:incB l=true) (hd:1≤d):qr8 n d l=ordI n d l:=by
  refine List.Perm.eq_of_pairwise (le:=fun p q=>leads q p n d=false) ?_ ((qrb (qrl hinc) (qun hinc)).imp fun {a b} h=>?_) (qut n d l) ((qr9 n d l).trans (qur n d l).symm)
  · intro a b _ _ h k
    have h1:=qus h
    have h2:=qus k
    have e1:a.b=b.b:=by omega
    have e2:a.id=b.id:=by omega
    have e3:a.a*d+a.b*n=b.a*d+b.b*n:=by omega
    rw [e1] at e3
    have e4:a.a*d=b.a*d:=by omega
    have e5:=Int.eq_of_mul_eq_mul_right (by omega) e4
    obtain ⟨x,y,z⟩:=a
    obtain ⟨x',y',z'⟩:=b
    simp only at e1 e2 e5
    subst e1 e2 e5
    rfl
  · rw [qup] at h
    rw [← Bool.not_eq_true,qup];omega
theorem quv (l:List Pt) (n d:Int):qrp l n d=quq l n d:=by
  unfold qrp qrk quq
  by_cases h1:qfx l=0
  · simp only [h1, ne_eq, not_true_eq_false, if_false]
    by_cases h2:qcv n d=0
    · simp only [h2, ne_eq, not_true_eq_false, if_false]
      rw [quu (qg2 h1).2.2 (qd2 h2).1]
    · simp only [h2,ne_eq,not_false_eq_true,if_true]
  · simp only [h1,ne_eq,not_false_eq_true,if_true]
end Go.Pel

namespace Go.Proofs.YtpfhgnccpiildaaGreat
open Go Go.Tx Go.Pel Go.Proofs.Tryz
set_option maxRecDepth 100000
set_option maxHeartbeats 0
abbrev quw:List Pk:=[.row Riii true,.row Riii true,.row Rii true]
abbrev qux:Type:=Diii×Diii×Dii×Unit
abbrev quy:Type:=Int
def quz (r:quy):LV×List Ob:=(.int .i64 r,[])
def qv0 (F:qux→Option quy):Go.Tx.Spec:=⟨144,quw,quy,F,quz⟩
def qv1 (x:qux):Bool:=qm4 (ofP x.1) (ofP x.2.1) x.2.2.1.1 x.2.2.1.2.1
def qv2 (d:Nat) (x:qux):Option quy:=bif qv1 x then some (cmpC (ofP x.1) (ofP x.2.1) x.2.2.1.1 x.2.2.1.2.1) else none
theorem qv3 (d:Nat) (x:qux) (h:qv1 x=true):qv2 d x=some (cmpC (ofP x.1) (ofP x.2.1) x.2.2.1.1 x.2.2.1.2.1):=by unfold qv2;rw [h];rfl
theorem qv4 (d:Nat):COK prog (qv0 (qv2 d)):=by
 refine qhd (qhe (fn:=f144) (by kernel_rfl) (by kernel_rfl) (by kernel_rfl)) fun x r hx w φ vs hφ hv=>?_
 have hx:qv2 d x=some r:=hx
 unfold qv2 at hx
 obtain ⟨hc,rfl⟩:=qit hx
 have hv:VRs (Emb.fro φ) [.agg [.int .i64 x.1.1,.int .i64 x.1.2.1,.int .i64 x.1.2.2.1],.agg [.int .i64 x.2.1.1,.int .i64 x.2.1.2.1,.int .i64 x.2.1.2.2.1],.agg [.int .i64 x.2.2.1.1,.int .i64 x.2.2.1.2.1]] vs:=hv
 obtain ⟨v0,vs,rfl,q0,hv⟩:=VRs.uncons hv
 obtain ⟨v1,vs,rfl,q1,hv⟩:=VRs.uncons hv
 obtain ⟨v2,rfl,q2⟩:=vrs1 hv
 have r0:=qh6 (p:=x.1) q0;subst r0
 have r1:=qh6 (p:=x.2.1) q1;subst r1
 have r2:=qh7 q2;subst r2
 unfold qv1 at hc
 have h1:=hc
 refine (ql8 (ofP x.1) (ofP x.2.1) x.2.2.1.1 x.2.2.1.2.1 w (qm5 h1)).mono ?_
 rintro e w' ⟨rfl,y,rfl⟩
 exact qhb hφ (.int _ _) y
abbrev qv5:List Pk:=[.row RLiE false,.row RLiE false]
abbrev qv6:Type:=DLiE×DLiE×Unit
abbrev qv7:Type:=Bool
def qv8 (r:qv7):LV×List Ob:=(.bool r,[])
def qv9 (F:qv6→Option qv7):Go.Tx.Spec:=⟨18,qv5,qv7,F,qv8⟩
def qva (x:qv6):Bool:=decide ((idsI x.1.1).length≤1000000)&&decide ((idsI x.2.1.1).length≤1000000)
def qvb (d:Nat) (x:qv6):Option qv7:=bif qva x then some (decide ((idsI x.1.1)=(idsI x.2.1.1))) else none
theorem qvc (d:Nat) (x:qv6) (h:qva x=true):qvb d x=some (decide ((idsI x.1.1)=(idsI x.2.1.1))):=by unfold qvb;rw [h];rfl
theorem qvd (d:Nat):COK prog (qv9 (qvb d)):=by
 refine qhd (qhe (fn:=f18) (by kernel_rfl) (by kernel_rfl) (by kernel_rfl)) fun x r hx w φ vs hφ hv=>?_
 have hx:qvb d x=some r:=hx
 unfold qvb at hx
 obtain ⟨hc,rfl⟩:=qit hx
 have hv:VRs (Emb.fro φ) [.fz RI x.1.1,.fz RI x.2.1.1] vs:=hv
 obtain ⟨v0,vs,rfl,q0,hv⟩:=VRs.uncons hv
 obtain ⟨v1,rfl,q1⟩:=vrs1 hv
 obtain ⟨A0,c0,rfl,s0,z0⟩:=qin hφ q0
 obtain ⟨A1,c1,rfl,s1,z1⟩:=qin hφ q1
 unfold qva at hc
 simp only [Bool.and_eq_true] at hc
 obtain ⟨h1,h2⟩:=hc
 replace h1:=of_decide_eq_true h1
 replace h2:=of_decide_eq_true h2
 refine (qs6 A0 A1 c0 c1 (idsI x.1.1) (idsI x.2.1.1) w s0 s1 h1 h2).mono ?_
 rintro e w' ⟨rfl,y,rfl⟩
 exact qhb hφ (.bool _) y
abbrev qve:List Pk:=[.row qj5 true,.row Ri false]
abbrev qvf:Type:=qj6×Di×Unit
abbrev qvg:Type:=Int×Int×Int×Int
def qvh (r:qvg):LV×List Ob:=(.tup [.agg [.int .i64 r.1,.int .i64 r.2.1,.int .i64 r.2.2.1],.int .i64 r.2.2.2],[])
def qvi (F:qvf→Option qvg):Go.Tx.Spec:=⟨60,qve,qvg,F,qvh⟩
def qvj (x:qvf):Bool:=true
def qvk (d:Nat) (x:qvf):Option qvg:=bif qvj x then some ((qgf (ptsL x.1.1) x.2.1.1).1.id,(qgf (ptsL x.1.1) x.2.1.1).1.a,(qgf (ptsL x.1.1) x.2.1.1).1.b,(qgf (ptsL x.1.1) x.2.1.1).2) else none
theorem qvl (d:Nat) (x:qvf) (h:qvj x=true):qvk d x=some ((qgf (ptsL x.1.1) x.2.1.1).1.id,(qgf (ptsL x.1.1) x.2.1.1).1.a,(qgf (ptsL x.1.1) x.2.1.1).1.b,(qgf (ptsL x.1.1) x.2.1.1).2):=by unfold qvk;rw [h];rfl
theorem qvm (d:Nat):COK prog (qvi (qvk d)):=by
 refine qhd (qhe (fn:=f60) (by kernel_rfl) (by kernel_rfl) (by kernel_rfl)) fun x r hx w φ vs hφ hv=>?_
 have hx:qvk d x=some r:=hx
 unfold qvk at hx
 obtain ⟨hc,rfl⟩:=qit hx
 have hv:VRs (Emb.fro φ) [.agg [.fz RP x.1.1],.int .i64 x.2.1.1] vs:=hv
 obtain ⟨v0,vs,rfl,q0,hv⟩:=VRs.uncons hv
 obtain ⟨v1,rfl,q1⟩:=vrs1 hv
 obtain ⟨A0,c0,rfl,s0,z0⟩:=qio hφ q0
 have r1:=qh8 q1;subst r1
 refine (qqy A0 c0 (ptsL x.1.1) x.2.1.1 w s0).mono ?_
 rintro e w' ⟨rfl,y,rfl⟩
 exact qhb hφ (VR.tupL (VRs.cons (VR.aggL (VRs.cons (.int _ _) (VRs.cons (.int _ _) (VRs.cons (.int _ _) VRs.nil)))) (VRs.cons (.int _ _) VRs.nil))) y
abbrev qvn:List Pk:=[.row qj5 true,.row Rii true]
abbrev qvo:Type:=qj6×Dii×Unit
abbrev qvp:Type:=Int
def qvq (r:qvp):LV×List Ob:=(.int .i64 r,[])
def qvr (F:qvo→Option qvp):Go.Tx.Spec:=⟨45,qvn,qvp,F,qvq⟩
def qvs (x:qvo):Bool:=i64B x.2.1.1&&i64B x.2.1.2.1&&decide ((ptsL x.1.1).length≤1000000)
def qvt (d:Nat) (x:qvo):Option qvp:=bif qvs x then some (qs5 (ptsL x.1.1) x.2.1.1 x.2.1.2.1) else none
theorem qvu (d:Nat) (x:qvo) (h:qvs x=true):qvt d x=some (qs5 (ptsL x.1.1) x.2.1.1 x.2.1.2.1):=by unfold qvt;rw [h];rfl
theorem qvv (d:Nat):COK prog (qvr (qvt d)):=by
 refine qhd (qhe (fn:=f45) (by kernel_rfl) (by kernel_rfl) (by kernel_rfl)) fun x r hx w φ vs hφ hv=>?_
 have hx:qvt d x=some r:=hx
 unfold qvt at hx
 obtain ⟨hc,rfl⟩:=qit hx
 have hv:VRs (Emb.fro φ) [.agg [.fz RP x.1.1],.agg [.int .i64 x.2.1.1,.int .i64 x.2.1.2.1]] vs:=hv
 obtain ⟨v0,vs,rfl,q0,hv⟩:=VRs.uncons hv
 obtain ⟨v1,rfl,q1⟩:=vrs1 hv
 obtain ⟨A0,c0,rfl,s0,z0⟩:=qio hφ q0
 have r1:=qh7 q1;subst r1
 unfold qvs at hc
 simp only [Bool.and_eq_true] at hc
 obtain ⟨⟨h1,h2⟩,h3⟩:=hc
 replace h3:=of_decide_eq_true h3
 refine (qs7 A0 c0 (ptsL x.1.1) x.2.1.1 x.2.1.2.1 w (qiq h1) (qiq h2) s0 h3).mono ?_
 rintro e w' ⟨rfl,y,rfl⟩
 exact qhb hφ (.int _ _) y
abbrev qw5:List Pk:=[.row qj5 true,.row Rii true]
abbrev qw6:Type:=qj6×Dii×Unit
abbrev qw7:Type:=List Di×Int
def qw8 (r:qw7):LV×List Ob:=(.tup [.rs 0,.int .i64 r.2],[.rows Ri r.1])
def qw9 (F:qw6→Option qw7):Go.Tx.Spec:=⟨14,qw5,qw7,F,qw8⟩
def qwa (x:qw6):Bool:=i64B x.2.1.1&&i64B x.2.1.2.1&&decide ((ptsL x.1.1).length≤1000000)
def qwb (d:Nat) (x:qw6):Option qw7:=bif qwa x then some (unI (quq (ptsL x.1.1) x.2.1.1 x.2.1.2.1).1,(quq (ptsL x.1.1) x.2.1.1 x.2.1.2.1).2) else none
theorem qwc (d:Nat) (x:qw6) (h:qwa x=true):qwb d x=some (unI (quq (ptsL x.1.1) x.2.1.1 x.2.1.2.1).1,(quq (ptsL x.1.1) x.2.1.1 x.2.1.2.1).2):=by unfold qwb;rw [h];rfl
theorem qwd (d:Nat):COK prog (qw9 (qwb d)):=by
 refine qhd (qhe (fn:=f14) (by kernel_rfl) (by kernel_rfl) (by kernel_rfl)) fun x r hx w φ vs hφ hv=>?_
 have hx:qwb d x=some r:=hx
 unfold qwb at hx
 obtain ⟨hc,rfl⟩:=qit hx
 have hv:VRs (Emb.fro φ) [.agg [.fz RP x.1.1],.agg [.int .i64 x.2.1.1,.int .i64 x.2.1.2.1]] vs:=hv
 obtain ⟨v0,vs,rfl,q0,hv⟩:=VRs.uncons hv
 obtain ⟨v1,rfl,q1⟩:=vrs1 hv
 obtain ⟨A0,c0,rfl,s0,z0⟩:=qio hφ q0
 have r1:=qh7 q1;subst r1
 unfold qwa at hc
 simp only [Bool.and_eq_true] at hc
 obtain ⟨⟨h1,h2⟩,h3⟩:=hc
 replace h3:=of_decide_eq_true h3
 refine ((quv (ptsL x.1.1) x.2.1.1 x.2.1.2.1) ▸ qrw A0 c0 (ptsL x.1.1) x.2.1.1 x.2.1.2.1 w (qiq h1) (qiq h2) s0 z0 h3).mono ?_
 rintro e w' ⟨A',c',rfl,y,rfl,ho⟩
 exact qhc hφ (τ:=Ri) rfl (qij _) ho (qim _) fun η e0=>VR.tupL (VRs.cons (.rs e0) (VRs.cons (.int _ _) VRs.nil))
abbrev qwe:List Pk:=[.row qj5 true,.row Rii true]
abbrev qwf:Type:=qj6×Dii×Unit
abbrev qwg:Type:=List Di
def qwh (r:qwg):LV×List Ob:=(.rs 0,[.rows Ri r])
def qwi (F:qwf→Option qwg):Go.Tx.Spec:=⟨132,qwe,qwg,F,qwh⟩
def qwj (x:qwf):Bool:=decide ((ptsL x.1.1).length≤1000000)&&((ptsL x.1.1).all fun p=>(ptsL x.1.1).all fun q=>qm4 q p x.2.1.1 x.2.1.2.1)
def qwk (d:Nat) (x:qwf):Option qwg:=bif qwj x then some (unI (ordK (ptsL x.1.1) x.2.1.1 x.2.1.2.1 (ptsL x.1.1).length)) else none
theorem qwl (d:Nat) (x:qwf) (h:qwj x=true):qwk d x=some (unI (ordK (ptsL x.1.1) x.2.1.1 x.2.1.2.1 (ptsL x.1.1).length)):=by unfold qwk;rw [h];rfl
theorem qwm (d:Nat):COK prog (qwi (qwk d)):=by
 refine qhd (qhe (fn:=f132) (by kernel_rfl) (by kernel_rfl) (by kernel_rfl)) fun x r hx w φ vs hφ hv=>?_
 have hx:qwk d x=some r:=hx
 unfold qwk at hx
 obtain ⟨hc,rfl⟩:=qit hx
 have hv:VRs (Emb.fro φ) [.agg [.fz RP x.1.1],.agg [.int .i64 x.2.1.1,.int .i64 x.2.1.2.1]] vs:=hv
 obtain ⟨v0,vs,rfl,q0,hv⟩:=VRs.uncons hv
 obtain ⟨v1,rfl,q1⟩:=vrs1 hv
 obtain ⟨A0,c0,rfl,s0,z0⟩:=qio hφ q0
 have r1:=qh7 q1;subst r1
 unfold qwj at hc
 simp only [Bool.and_eq_true] at hc
 obtain ⟨h1,h2⟩:=hc
 replace h1:=of_decide_eq_true h1
 refine (qsg A0 c0 (ptsL x.1.1) x.2.1.1 x.2.1.2.1 w s0 h1 (fun p hp q hq=>qm5 (List.all_eq_true.1 (List.all_eq_true.1 h2 p hp) q hq))).mono ?_
 rintro e w' ⟨A',c',rfl,y,rfl,ho⟩
 exact qhc hφ (τ:=Ri) rfl ((qij _).trans (qsa _ _ _ _)) ho (qim _) fun η e0=>(.rs e0)
end Go.Proofs.YtpfhgnccpiildaaGreat

namespace Go.Proofs
open Go.Shelf
end Go.Proofs

namespace Go.Proofs.YtpfhgnccpiildaaGreat
open Go Go.Tx Go.Proofs.Tryz
end Go.Proofs.YtpfhgnccpiildaaGreat

namespace Go.Tx
open Go Go.Pel
end Go.Tx
namespace Go.Proofs.YtpfhgnccpiildaaGreat
open Go Go.Tx Go.Pel Go.RowKit Go.Shelf Go.Proofs.Tryz
attribute [local go_sem] Oper.semAt_some
end Go.Proofs.YtpfhgnccpiildaaGreat

namespace Go.Proofs.YtpfhgnccpiildaaGreat
open Go Go.Tx Go.Proofs.Tryz
set_option maxRecDepth 100000
set_option maxHeartbeats 0
abbrev qww:List Pk:=[.row Riii true,.row Riii true]
abbrev qwx:Type:=Diii×Diii×Unit
abbrev qwy:Type:=Int×Int×Int
def qwz (r:qwy):LV×List Ob:=(.tup [.agg [.int .i64 r.1,.int .i64 r.2.1],.int .i64 r.2.2],[])
def qx0 (F:qwx→Option qwy):Go.Tx.Spec:=⟨111,qww,qwy,F,qwz⟩
abbrev qx1:Type:=(qoh→Option qoi)×(qn8→Option qn9)×Unit
def qx2 (d:Nat):qx1:=(qom d,qnd d,())
def qx3 (C:qx1):List Go.Tx.Spec:=[qok C.1,qnb C.2.1]
abbrev qx4:Type:=Int×Int×Int×Int×Int×Int
def qx5 (v:qx4):St:=⟨[(0,.agg [i6 v.1,i6 v.2.1,i6 v.2.2.1]),(1,.agg [i6 v.2.2.2.1,i6 v.2.2.2.2.1,i6 v.2.2.2.2.2])],[]⟩
abbrev qx6:Type:=Int×Int×Int×Int×Int×Int×Int×Int
def qx7 (v:qx6):St:=⟨[(2,.ptr 0 0),(3,.ptr 1 0),(4,.ptr 2 0)],[.cells [i6 v.1,i6 v.2.1,i6 v.2.2.1],.cells [i6 v.2.2.2.1,i6 v.2.2.2.2.1,i6 v.2.2.2.2.2.1],.cells [i6 v.2.2.2.2.2.2.1,i6 v.2.2.2.2.2.2.2]]⟩
def qx8 (C:qx1) (v:qx4):Dt qx6:=(Dt.ret (v.1,v.2.1,v.2.2.1,v.2.2.2.1,v.2.2.2.2.1,v.2.2.2.2.2,(0:Int),(0:Int)))
abbrev q343 {V Y:Type}:=@rg qx1 V Y tysT (fun C=>(orc (qx3 C))) 34
theorem qx9 C v:q343 (regO (qct f111) 0) false (an [2,3,4]) qx5 qx8 qx7 C v:=rgI (by kernel_rfl)
abbrev qxa:Type:=Int×Int×Int×Int×Int×Int×Int×Int×Int
def qxb (v:qxa):St:=⟨[(2,.ptr 0 0),(3,.ptr 1 0),(4,.ptr 2 0),(6,i6 v.1)],[.cells [i6 v.2.1,i6 v.2.2.1,i6 v.2.2.2.1],.cells [i6 v.2.2.2.2.1,i6 v.2.2.2.2.2.1,i6 v.2.2.2.2.2.2.1],.cells [i6 v.2.2.2.2.2.2.2.1,i6 v.2.2.2.2.2.2.2.2]]⟩
def qxc (C:qx1) (v:qx6):Dt qxa:=(Dt.bnd (C.1 ((v.1,v.2.1,v.2.2.1,()),(v.2.2.2.1,v.2.2.2.2.1,v.2.2.2.2.2.1,()),((0:Int),(1:Int),()),())) fun r1=>(Dt.ret (r1,v.1,v.2.1,v.2.2.1,v.2.2.2.1,v.2.2.2.2.1,v.2.2.2.2.2.1,v.2.2.2.2.2.2.1,v.2.2.2.2.2.2.2)))
theorem qxd C v:q343 (regO (qct f111) 1) false (an [2,3,4,6]) qx7 qxc qxb C v:=rgI (by kernel_rfl)
abbrev qxe:Type:=Int×Bool×Int×Int×Int×Int×Int×Int×Int×Int
def qxf (v:qxe):St:=⟨[(2,.ptr 0 0),(3,.ptr 1 0),(4,.ptr 2 0),(6,i6 v.1),(12,.bool v.2.1)],[.cells [i6 v.2.2.1,i6 v.2.2.2.1,i6 v.2.2.2.2.1],.cells [i6 v.2.2.2.2.2.1,i6 v.2.2.2.2.2.2.1,i6 v.2.2.2.2.2.2.2.1],.cells [i6 v.2.2.2.2.2.2.2.2.1,i6 v.2.2.2.2.2.2.2.2.2]]⟩
def qxg (C:qx1) (v:qxa):Dt qxe:=(Dt.ret (v.1,(v.1 != (0:Int)),v.2.1,v.2.2.1,v.2.2.2.1,v.2.2.2.2.1,v.2.2.2.2.2.1,v.2.2.2.2.2.2.1,v.2.2.2.2.2.2.2.1,v.2.2.2.2.2.2.2.2))
theorem qxh C v:q343 (regO (qct f111) 2) false (an [2,3,4,6,12]) qxb qxg qxf C v:=rgI (by kernel_rfl)
abbrev qxi:Type:=Int×Int×Int
def qxj (v:qxi):St:=⟨[(4,.ptr 0 0),(5,i6 v.1)],[.cells [i6 v.2.1,i6 v.2.2]]⟩
def qxk (C:qx1) (v:qxe):Dt qxi:=(Dt.ret (v.1,(0:Int),(0:Int)))
theorem qxl C v:q343 (regO (qct f111) 3) false (an [4,5]) qxf qxk qxj C v:=rgI (by kernel_rfl)
abbrev qxm:Type:=Bool×Int×Int×Int×Int×Int×Int×Int×Int
def qxn (v:qxm):St:=⟨[(2,.ptr 0 0),(3,.ptr 1 0),(4,.ptr 2 0),(19,.bool v.1)],[.cells [i6 v.2.1,i6 v.2.2.1,i6 v.2.2.2.1],.cells [i6 v.2.2.2.2.1,i6 v.2.2.2.2.2.1,i6 v.2.2.2.2.2.2.1],.cells [i6 v.2.2.2.2.2.2.2.1,i6 v.2.2.2.2.2.2.2.2]]⟩
def qxo (C:qx1) (v:qxe):Dt qxm:=(Dt.ret ((v.2.2.2.2.1 == v.2.2.2.2.2.2.2.1),v.2.2.1,v.2.2.2.1,v.2.2.2.2.1,v.2.2.2.2.2.1,v.2.2.2.2.2.2.1,v.2.2.2.2.2.2.2.1,v.2.2.2.2.2.2.2.2.1,v.2.2.2.2.2.2.2.2.2))
theorem qxp C v:q343 (regO (qct f111) 4) false (an [2,3,4,19]) qxf qxo qxn C v:=rgI (by kernel_rfl)
def qxq (C:qx1) (v:qxm):Dt qxi:=(Dt.ret ((6:Int),(0:Int),(0:Int)))
theorem qxr C v:q343 (regO (qct f111) 5) false (an [4,5]) qxn qxq qxj C v:=rgI (by kernel_rfl)
def qxs (C:qx1) (v:qxm):Dt qxi:=(Dt.bnd (C.2.1 (((IntKind.wrap .i64 (v.2.2.1 - v.2.2.2.2.2.1)),()),((IntKind.wrap .i64 (v.2.2.2.2.2.2.1 - v.2.2.2.1)),()),())) fun r1=>(Dt.ret (r1.2.2,r1.1,r1.2.1)))
theorem qxt C v:q343 (regO (qct f111) 6) false (an [4,5]) qxn qxs qxj C v:=rgI (by kernel_rfl)
def qxu (d:Nat) (x:qwx):Option qwy :=
 (qx8 (qx2 d) (x.1.1,x.1.2.1,x.1.2.2.1,x.2.1.1,x.2.1.2.1,x.2.1.2.2.1)).eval fun y0 =>
 (qxc (qx2 d) y0).eval fun y1 =>
 (qxg (qx2 d) y1).eval fun y2 =>
 bif y2.2.1 then ((qxk (qx2 d) y2).eval fun y3 =>
 some (y3.2.1,y3.2.2,y3.1)) else ((qxo (qx2 d) y2).eval fun y4 =>
 bif y4.1 then ((qxq (qx2 d) y4).eval fun y5 =>
 some (y5.2.1,y5.2.2,y5.1)) else ((qxs (qx2 d) y4).eval fun y6 =>
 some (y6.2.1,y6.2.2,y6.1)))
theorem qxv (d:Nat):COK prog (qx0 (qxu d)):=by
 have hm:prog.follows .mixedOrders=true:=mixed
 have hT:=tys
 have hC0:OrcOK prog (orc (qx3 (qx2 d))):=qcn (by
  intro S hS
  simp only [qx3,List.mem_cons,List.not_mem_nil,or_false] at hS
  rcases hS with rfl | rfl
  · exact qoo d
  · exact qnf d)
 have hC:OrcOK prog (orc (qx3 (qx2 d))):=hC0
 refine q8c (c:=qct f111) (fn:=f111) hT (by kernel_rfl) (by kernel_rfl) (by decide) fun x r h w0 φ0 Q hend=>?_
 replace h:qxu d x=some r:=h
 unfold qxu at h
 show Run prog w0 φ0 34 (qct f111) ⟨[(0,.agg [.int .i64 x.1.1,.int .i64 x.1.2.1,.int .i64 x.1.2.2.1]),(1,.agg [.int .i64 x.2.1.1,.int .i64 x.2.1.2.1,.int .i64 x.2.1.2.2.1])],[]⟩ Q
 refine q342 hm hT hC (qx9 (qx2 d) (x.1.1,x.1.2.1,x.1.2.2.1,x.2.1.1,x.2.1.2.1,x.2.1.2.2.1)) h fun y0 h=>?_
 refine q7w ?_
 refine q342 hm hT hC (qxd (qx2 d) y0) h fun y1 h=>?_
 refine q342 hm hT hC (qxh (qx2 d) y1) h fun y2 h=>?_
 refine q80 (v:=y2.2.1) (by kernel_rfl) h ?_ ?_
 ·
  intro h
  refine q342 hm hT hC (qxl (qx2 d) y2) h fun y3 h=>?_
  refine q7v (q7k ?_)
  cases h
  exact (hend _ (by kernel_rfl)).2
 ·
  intro h
  refine q7s (q7i (q7w ?_))
  refine q342 hm hT hC (qxp (qx2 d) y2) h fun y4 h=>?_
  refine q80 (v:=y4.1) (by kernel_rfl) h ?_ ?_
  ·
   intro h
   refine q342 hm hT hC (qxr (qx2 d) y4) h fun y5 h=>?_
   refine q7v (q7k ?_)
   cases h
   exact (hend _ (by kernel_rfl)).2
  ·
   intro h
   refine q7s (q7i ?_)
   refine q342 hm hT hC (qxt (qx2 d) y4) h fun y6 h=>?_
   refine q7v ?_
   cases h
   exact (hend _ (by kernel_rfl)).2
abbrev qxw:List Pk:=[.row Rii true,.row Rii true]
abbrev qxx:Type:=Dii×Dii×Unit
abbrev qxy:Type:=Int
def qxz (r:qxy):LV×List Ob:=(.int .i64 r,[])
def qy0 (F:qxx→Option qxy):Go.Tx.Spec:=⟨118,qxw,qxy,F,qxz⟩
abbrev qy1:Type:=(qmq→Option qmr)×Unit
def qy2 (d:Nat):qy1:=(qmv d,())
def qy3 (C:qy1):List Go.Tx.Spec:=[qmt C.1]
abbrev qy4:Type:=Int×Int×Int×Int
def qy5 (v:qy4):St:=⟨[(0,.agg [i6 v.1,i6 v.2.1]),(1,.agg [i6 v.2.2.1,i6 v.2.2.2])],[]⟩
abbrev qy6:Type:=Int×Int×Int×Int
def qy7 (v:qy6):St:=⟨[(2,.ptr 0 0),(3,.ptr 1 0)],[.cells [i6 v.1,i6 v.2.1],.cells [i6 v.2.2.1,i6 v.2.2.2]]⟩
def qy8 (C:qy1) (v:qy4):Dt qy6:=(Dt.ret (v.1,v.2.1,v.2.2.1,v.2.2.2))
abbrev q344 {V Y:Type}:=@rg qy1 V Y tysT (fun C=>(orc (qy3 C))) 10
theorem qy9 C v:q344 (regO (qct f118) 0) false (an [2,3]) qy5 qy8 qy7 C v:=rgI (by kernel_rfl)
abbrev qya:Type:=Int
def qyb (v:qya):St:=⟨[(4,i6 v)],[]⟩
def qyc (C:qy1) (v:qy6):Dt qya:=(Dt.bnd (C.1 ((v.1,v.2.1,()),())) fun r1=>(Dt.bnd (C.1 ((v.2.2.1,v.2.2.2,()),())) fun r2=>(Dt.ret (tmax r1 r2))))
theorem qyd C v:q344 (regO (qct f118) 1) true [(4,.any)] qy7 qyc qyb C v:=rgI (by kernel_rfl)
def qye (d:Nat) (x:qxx):Option qxy :=
 (qy8 (qy2 d) (x.1.1,x.1.2.1,x.2.1.1,x.2.1.2.1)).eval fun y0 =>
 (qyc (qy2 d) y0).eval fun y1 =>
 some y1
theorem qyf (d:Nat):COK prog (qy0 (qye d)):=by
 have hm:prog.follows .mixedOrders=true:=mixed
 have hT:=tys
 have hC0:OrcOK prog (orc (qy3 (qy2 d))):=qcn (by
  intro S hS
  simp only [qy3,List.mem_cons,List.not_mem_nil,or_false] at hS
  subst hS;exact qmx d)
 have hC:OrcOK prog (orc (qy3 (qy2 d))):=hC0
 refine q8c (c:=qct f118) (fn:=f118) hT (by kernel_rfl) (by kernel_rfl) (by decide) fun x r h w0 φ0 Q hend=>?_
 replace h:qye d x=some r:=h
 unfold qye at h
 show Run prog w0 φ0 10 (qct f118) ⟨[(0,.agg [.int .i64 x.1.1,.int .i64 x.1.2.1]),(1,.agg [.int .i64 x.2.1.1,.int .i64 x.2.1.2.1])],[]⟩ Q
 refine q342 hm hT hC (qy9 (qy2 d) (x.1.1,x.1.2.1,x.2.1.1,x.2.1.2.1)) h fun y0 h=>?_
 refine q342 hm hT hC (qyd (qy2 d) y0) h fun y1 h=>?_
 refine q7v ?_
 cases h
 exact (hend _ (by kernel_rfl)).2
abbrev qyg:List Pk:=[.row Ri false]
abbrev qyh:Type:=Di×Unit
abbrev qyi:Type:=Bool
def qyj (r:qyi):LV×List Ob:=(.bool r,[])
def qyk (F:qyh→Option qyi):Go.Tx.Spec:=⟨153,qyg,qyi,F,qyj⟩
abbrev qyl:Type:=Unit
def qym (_d:Nat):qyl:=()
def qyn (C:qyl):List Go.Tx.Spec:=[]
abbrev qyo:Type:=Int
def qyp (v:qyo):St:=⟨[(0,i6 v)],[]⟩
def qyq (C:qyl) (v:qyo):Dt qyo:=(Dt.ret v)
abbrev q345 {V Y:Type}:=@rg qyl V Y tysT (fun C=>(orc (qyn C))) 6
theorem qyr C v:q345 (regO (qct f153) 0) false [(0,.any)] qyp qyq qyp C v:=rgI (by kernel_rfl)
abbrev qys:Type:=Bool
def qyt (v:qys):St:=⟨[(2,.bool v)],[]⟩
def qyu (C:qyl) (v:qyo):Dt qys:=(Dt.ret (v != v))
theorem qyv C v:q345 (regO (qct f153) 1) false [(2,.any)] qyp qyu qyt C v:=rgI (by kernel_rfl)
def qyw (d:Nat) (x:qyh):Option qyi :=
 (qyq (qym d) x.1.1).eval fun y0 =>
 (qyu (qym d) y0).eval fun y1 =>
 some y1
theorem qyx (d:Nat):COK prog (qyk (qyw d)):=by
 have hm:prog.follows .mixedOrders=true:=mixed
 have hT:=tys
 have hC0:OrcOK prog (orc (qyn (qym d))):=qcn (by
  intro S hS
  simp only [qyn,List.mem_cons,List.not_mem_nil,or_false] at hS
  all_goals first | cases hS | exact hS.elim)
 have hC:OrcOK prog (orc (qyn (qym d))):=hC0
 refine q8c (c:=qct f153) (fn:=f153) hT (by kernel_rfl) (by kernel_rfl) (by decide) fun x r h w0 φ0 Q hend=>?_
 replace h:qyw d x=some r:=h
 unfold qyw at h
 show Run prog w0 φ0 6 (qct f153) ⟨[(0,.int .i64 x.1.1)],[]⟩ Q
 refine q342 hm hT hC (qyr (qym d) x.1.1) h fun y0 h=>?_
 refine q342 hm hT hC (qyv (qym d) y0) h fun y1 h=>?_
 refine q7v ?_
 cases h
 exact (hend _ (by kernel_rfl)).2
abbrev qyy:List Pk:=[.row Ri false,.row Ri false]
abbrev qyz:Type:=Di×Di×Unit
abbrev qz0:Type:=Int
def qz1 (r:qz0):LV×List Ob:=(.int .i64 r,[])
def qz2 (F:qyz→Option qz0):Go.Tx.Spec:=⟨126,qyy,qz0,F,qz1⟩
abbrev qz3:Type:=(qyh→Option qyi)×Unit
def qz4 (d:Nat):qz3:=(qyw d,())
def qz5 (C:qz3):List Go.Tx.Spec:=[qyk C.1]
abbrev qz6:Type:=Int×Int
def qz7 (v:qz6):St:=⟨[(0,i6 v.1),(1,i6 v.2)],[]⟩
def qz8 (C:qz3) (v:qz6):Dt qz6:=(Dt.ret (v.1,v.2))
abbrev q346 {V Y:Type}:=@rg qz3 V Y tysT (fun C=>(orc (qz5 C))) 20
theorem qz9 C v:q346 (regO (qct f126) 0) false (an [0,1]) qz7 qz8 qz7 C v:=rgI (by kernel_rfl)
abbrev qza:Type:=Int×Int×Bool
def qzb (v:qza):St:=⟨[(0,i6 v.1),(1,i6 v.2.1),(5,.bool v.2.2)],[]⟩
def qzc (C:qz3) (v:qz6):Dt qza:=(Dt.bnd (C.1 ((v.1,()),())) fun r1=>(Dt.ret (v.1,v.2,r1)))
theorem qzd C v:q346 (regO (qct f126) 1) false (an [0,1,5]) qz7 qzc qzb C v:=rgI (by kernel_rfl)
abbrev qze:Type:=Int×Int×Bool×Bool
def qzf (v:qze):St:=⟨[(0,i6 v.1),(1,i6 v.2.1),(5,.bool v.2.2.1),(6,.bool v.2.2.2)],[]⟩
def qzg (C:qz3) (v:qza):Dt qze:=(Dt.bnd (C.1 ((v.2.1,()),())) fun r1=>(Dt.ret (v.1,v.2.1,v.2.2,r1)))
theorem qzh C v:q346 (regO (qct f126) 2) false (an [0,1,5,6]) qzb qzg qzf C v:=rgI (by kernel_rfl)
abbrev qzi:Type:=Int×Int×Bool×Bool
def qzj (v:qzi):St:=⟨[(0,i6 v.1),(1,i6 v.2.1),(6,.bool v.2.2.1),(11,.bool v.2.2.2)],[]⟩
def qzk (C:qz3) (v:qze):Dt qzi:=(Dt.ret (v.1,v.2.1,v.2.2.2,v.2.2.1))
theorem qzl C v:q346 (regO (qct f126) 3) false (an [0,1,6,11]) qzf qzk qzj C v:=rgI (by kernel_rfl)
abbrev qzm:Type:=Bool
def qzn (v:qzm):St:=⟨[(12,.bool v)],[]⟩
def qzo (C:qz3) (v:qzi):Dt qzm:=(Dt.ret v.2.2.1)
theorem qzp C v:q346 (regO (qct f126) 4) false [(12,.any)] qzj qzo qzn C v:=rgI (by kernel_rfl)
abbrev qzq:Type:=Int
def qzr (v:qzq):St:=⟨[(4,i6 v)],[]⟩
def qzs (C:qz3) (v:qzm):Dt qzq:=(Dt.ret (0:Int))
theorem qzt C v:q346 (regO (qct f126) 5) false [(4,.any)] qzn qzs qzr C v:=rgI (by kernel_rfl)
def qzu (C:qz3) (v:qzm):Dt qzq:=(Dt.ret (-1:Int))
theorem qzv C v:q346 (regO (qct f126) 6) false [(4,.any)] qzn qzu qzr C v:=rgI (by kernel_rfl)
abbrev qzw:Type:=Int×Int×Bool
def qzx (v:qzw):St:=⟨[(0,i6 v.1),(1,i6 v.2.1),(13,.bool v.2.2)],[]⟩
def qzy (C:qz3) (v:qzi):Dt qzw:=(Dt.ret (v.1,v.2.1,v.2.2.1))
theorem qzz C v:q346 (regO (qct f126) 7) false (an [0,1,13]) qzj qzy qzx C v:=rgI (by kernel_rfl)
def q100 (C:qz3) (v:qzw):Dt qzq:=(Dt.ret (1:Int))
theorem q101 C v:q346 (regO (qct f126) 8) false [(4,.any)] qzx q100 qzr C v:=rgI (by kernel_rfl)
abbrev q102:Type:=Int×Int×Bool
def q103 (v:q102):St:=⟨[(0,i6 v.1),(1,i6 v.2.1),(16,.bool v.2.2)],[]⟩
def q104 (C:qz3) (v:qzw):Dt q102:=(Dt.ret (v.1,v.2.1,(decide (v.1<v.2.1))))
theorem q105 C v:q346 (regO (qct f126) 9) false (an [0,1,16]) qzx q104 q103 C v:=rgI (by kernel_rfl)
def q106 (C:qz3) (v:q102):Dt qzq:=(Dt.ret (-1:Int))
theorem q107 C v:q346 (regO (qct f126) 10) false [(4,.any)] q103 q106 qzr C v:=rgI (by kernel_rfl)
abbrev q108:Type:=Bool
def q109 (v:q108):St:=⟨[(19,.bool v)],[]⟩
def q10a (C:qz3) (v:q102):Dt q108:=(Dt.ret (decide (v.1 > v.2.1)))
theorem q10b C v:q346 (regO (qct f126) 11) false [(19,.any)] q103 q10a q109 C v:=rgI (by kernel_rfl)
def q10c (C:qz3) (v:q108):Dt qzq:=(Dt.ret (1:Int))
theorem q10d C v:q346 (regO (qct f126) 12) false [(4,.any)] q109 q10c qzr C v:=rgI (by kernel_rfl)
def q10e (C:qz3) (v:q108):Dt qzq:=(Dt.ret (0:Int))
theorem q10f C v:q346 (regO (qct f126) 13) false [(4,.any)] q109 q10e qzr C v:=rgI (by kernel_rfl)
def q10g (d:Nat) (x:qyz):Option qz0 :=
 (qz8 (qz4 d) (x.1.1,x.2.1.1)).eval fun y0 =>
 (qzc (qz4 d) y0).eval fun y1 =>
 (qzg (qz4 d) y1).eval fun y2 =>
 (qzk (qz4 d) y2).eval fun y3 =>
 bif y3.2.2.2 then ((qzo (qz4 d) y3).eval fun y4 =>
 bif y4 then ((qzs (qz4 d) y4).eval fun y5 =>
 some y5) else ((qzu (qz4 d) y4).eval fun y6 =>
 some y6)) else ((qzy (qz4 d) y3).eval fun y7 =>
 bif y7.2.2 then ((q100 (qz4 d) y7).eval fun y8 =>
 some y8) else ((q104 (qz4 d) y7).eval fun y9 =>
 bif y9.2.2 then ((q106 (qz4 d) y9).eval fun y10 =>
 some y10) else ((q10a (qz4 d) y9).eval fun y11 =>
 bif y11 then ((q10c (qz4 d) y11).eval fun y12 =>
 some y12) else ((q10e (qz4 d) y11).eval fun y13 =>
 some y13))))
theorem q10h (d:Nat):COK prog (qz2 (q10g d)):=by
 have hm:prog.follows .mixedOrders=true:=mixed
 have hT:=tys
 have hC0:OrcOK prog (orc (qz5 (qz4 d))):=qcn (by
  intro S hS
  simp only [qz5,List.mem_cons,List.not_mem_nil,or_false] at hS
  subst hS;exact qyx d)
 have hC:OrcOK prog (orc (qz5 (qz4 d))):=hC0
 refine q8c (c:=qct f126) (fn:=f126) hT (by kernel_rfl) (by kernel_rfl) (by decide) fun x r h w0 φ0 Q hend=>?_
 replace h:q10g d x=some r:=h
 unfold q10g at h
 show Run prog w0 φ0 20 (qct f126) ⟨[(0,.int .i64 x.1.1),(1,.int .i64 x.2.1.1)],[]⟩ Q
 refine q342 hm hT hC (qz9 (qz4 d) (x.1.1,x.2.1.1)) h fun y0 h=>?_
 refine q342 hm hT hC (qzd (qz4 d) y0) h fun y1 h=>?_
 refine q342 hm hT hC (qzh (qz4 d) y1) h fun y2 h=>?_
 refine q7w ?_
 refine q342 hm hT hC (qzl (qz4 d) y2) h fun y3 h=>?_
 refine q80 (v:=y3.2.2.2) (by kernel_rfl) h ?_ ?_
 ·
  intro h
  refine q7w ?_
  refine q342 hm hT hC (qzp (qz4 d) y3) h fun y4 h=>?_
  refine q80 (v:=y4) (by kernel_rfl) h ?_ ?_
  ·
   intro h
   refine q342 hm hT hC (qzt (qz4 d) y4) h fun y5 h=>?_
   refine q7v (q7k (q7k ?_))
   cases h
   exact (hend _ (by kernel_rfl)).2
  ·
   intro h
   refine q7s (q7i ?_)
   refine q342 hm hT hC (qzv (qz4 d) y4) h fun y6 h=>?_
   refine q7v (q7k ?_)
   cases h
   exact (hend _ (by kernel_rfl)).2
 ·
  intro h
  refine q7s (q7i (q7w ?_))
  refine q342 hm hT hC (qzz (qz4 d) y3) h fun y7 h=>?_
  refine q80 (v:=y7.2.2) (by kernel_rfl) h ?_ ?_
  ·
   intro h
   refine q342 hm hT hC (q101 (qz4 d) y7) h fun y8 h=>?_
   refine q7v (q7k ?_)
   cases h
   exact (hend _ (by kernel_rfl)).2
  ·
   intro h
   refine q7s (q7i (q7w ?_))
   refine q342 hm hT hC (q105 (qz4 d) y7) h fun y9 h=>?_
   refine q80 (v:=y9.2.2) (by kernel_rfl) h ?_ ?_
   ·
    intro h
    refine q342 hm hT hC (q107 (qz4 d) y9) h fun y10 h=>?_
    refine q7v (q7k ?_)
    cases h
    exact (hend _ (by kernel_rfl)).2
   ·
    intro h
    refine q7s (q7i (q7w ?_))
    refine q342 hm hT hC (q10b (qz4 d) y9) h fun y11 h=>?_
    refine q80 (v:=y11) (by kernel_rfl) h ?_ ?_
    ·
     intro h
     refine q342 hm hT hC (q10d (qz4 d) y11) h fun y12 h=>?_
     refine q7v (q7k ?_)
     cases h
     exact (hend _ (by kernel_rfl)).2
    ·
     intro h
     refine q7s (q7i ?_)
     refine q342 hm hT hC (q10f (qz4 d) y11) h fun y13 h=>?_
     refine q7v ?_
     cases h
     exact (hend _ (by kernel_rfl)).2
abbrev q10i:List Pk:=[.row Ri false]
abbrev q10j:Type:=Di×Unit
abbrev q10k:Type:=Int
def q10l (r:q10k):LV×List Ob:=(.int .u64 r,[])
def q10m (F:q10j→Option q10k):Go.Tx.Spec:=⟨125,q10i,q10k,F,q10l⟩
abbrev q10n:Type:=Unit
def q10o (_d:Nat):q10n:=()
def q10p (C:q10n):List Go.Tx.Spec:=[]
abbrev q10q:Type:=Int
def q10r (v:q10q):St:=⟨[(0,i6 v)],[]⟩
def q10s (C:q10n) (v:q10q):Dt q10q:=(Dt.ret v)
abbrev q347 {V Y:Type}:=@rg q10n V Y tysT (fun C=>(orc (q10p C))) 10
theorem q10t C v:q347 (regO (qct f125) 0) false [(0,.any)] q10r q10s q10r C v:=rgI (by kernel_rfl)
abbrev q10u:Type:=Int×Bool
def q10v (v:q10u):St:=⟨[(0,i6 v.1),(4,.bool v.2)],[]⟩
def q10w (C:q10n) (v:q10q):Dt q10u:=(Dt.ret (v,(decide (v<(0:Int)))))
theorem q10x C v:q347 (regO (qct f125) 1) false (an [0,4]) q10r q10w q10v C v:=rgI (by kernel_rfl)
abbrev q10y:Type:=Int
def q10z (v:q10y):St:=⟨[(2,u6 v)],[]⟩
def q110 (C:q10n) (v:q10u):Dt q10y:=(Dt.ret (IntKind.wrap .u64 (0 - (IntKind.wrap .u64 v.1))))
theorem q111 C v:q347 (regO (qct f125) 2) false [(2,.any)] q10v q110 q10z C v:=rgI (by kernel_rfl)
def q112 (C:q10n) (v:q10u):Dt q10y:=(Dt.ret (IntKind.wrap .u64 v.1))
theorem q113 C v:q347 (regO (qct f125) 3) false [(2,.any)] q10v q112 q10z C v:=rgI (by kernel_rfl)
def q114 (d:Nat) (x:q10j):Option q10k :=
 (q10s (q10o d) x.1.1).eval fun y0 =>
 (q10w (q10o d) y0).eval fun y1 =>
 bif y1.2 then ((q110 (q10o d) y1).eval fun y2 =>
 some y2) else ((q112 (q10o d) y1).eval fun y3 =>
 some y3)
theorem q115 (d:Nat):COK prog (q10m (q114 d)):=by
 have hm:prog.follows .mixedOrders=true:=mixed
 have hT:=tys
 have hC0:OrcOK prog (orc (q10p (q10o d))):=qcn (by
  intro S hS
  simp only [q10p,List.mem_cons,List.not_mem_nil,or_false] at hS
  all_goals first | cases hS | exact hS.elim)
 have hC:OrcOK prog (orc (q10p (q10o d))):=hC0
 refine q8c (c:=qct f125) (fn:=f125) hT (by kernel_rfl) (by kernel_rfl) (by decide) fun x r h w0 φ0 Q hend=>?_
 replace h:q114 d x=some r:=h
 unfold q114 at h
 show Run prog w0 φ0 10 (qct f125) ⟨[(0,.int .i64 x.1.1)],[]⟩ Q
 refine q342 hm hT hC (q10t (q10o d) x.1.1) h fun y0 h=>?_
 refine q7w ?_
 refine q342 hm hT hC (q10x (q10o d) y0) h fun y1 h=>?_
 refine q80 (v:=y1.2) (by kernel_rfl) h ?_ ?_
 ·
  intro h
  refine q342 hm hT hC (q111 (q10o d) y1) h fun y2 h=>?_
  refine q7v (q7k ?_)
  cases h
  exact (hend _ (by kernel_rfl)).2
 ·
  intro h
  refine q7s (q7i ?_)
  refine q342 hm hT hC (q113 (q10o d) y1) h fun y3 h=>?_
  refine q7v ?_
  cases h
  exact (hend _ (by kernel_rfl)).2
abbrev q116:List Pk:=[.row Ri false,.row Ri false]
abbrev q117:Type:=Di×Di×Unit
abbrev q118:Type:=Bool×Int×Int
def q119 (r:q118):LV×List Ob:=(.agg [.bool r.1,.int .u64 r.2.1,.int .u64 r.2.2],[])
def q11a (F:q117→Option q118):Go.Tx.Spec:=⟨121,q116,q118,F,q119⟩
abbrev q11b:Type:=(qm8→Option qm9)×(q10j→Option q10k)×Unit
def q11c (d:Nat):q11b:=(qmd d,q114 d,())
def q11d (C:q11b):List Go.Tx.Spec:=[qmb C.1,q10m C.2.1]
abbrev q11e:Type:=Int×Int
def q11f (v:q11e):St:=⟨[(0,i6 v.1),(1,i6 v.2)],[]⟩
abbrev q11g:Type:=Int×Int×Bool×Int×Int
def q11h (v:q11g):St:=⟨[(0,i6 v.1),(1,i6 v.2.1),(4,.ptr 0 0)],[.cells [.bool v.2.2.1,u6 v.2.2.2.1,u6 v.2.2.2.2]]⟩
def q11i (C:q11b) (v:q11e):Dt q11g:=(Dt.ret (v.1,v.2,false,(0:Int),(0:Int)))
abbrev q348 {V Y:Type}:=@rg q11b V Y tysT (fun C=>(orc (q11d C))) 23
theorem q11j C v:q348 (regO (qct f121) 0) false (an [0,1,4]) q11f q11i q11h C v:=rgI (by kernel_rfl)
abbrev q11k:Type:=Int×Int×Int×Int×Bool×Int×Int
def q11l (v:q11k):St:=⟨[(0,i6 v.1),(1,i6 v.2.1),(4,.ptr 0 0),(5,u6 v.2.2.1),(6,u6 v.2.2.2.1)],[.cells [.bool v.2.2.2.2.1,u6 v.2.2.2.2.2.1,u6 v.2.2.2.2.2.2]]⟩
def q11m (C:q11b) (v:q11g):Dt q11k:=(Dt.bnd (C.2.1 ((v.1,()),())) fun r1=>(Dt.bnd (C.2.1 ((v.2.1,()),())) fun r2=>(Dt.bnd (C.1 ((r1,()),(r2,()),())) fun r3=>(Dt.ret (v.1,v.2.1,r3.1,r3.2,v.2.2.1,v.2.2.2.1,v.2.2.2.2)))))
theorem q11n C v:q348 (regO (qct f121) 1) false (an [0,1,4,5,6]) q11h q11m q11l C v:=rgI (by kernel_rfl)
abbrev q11o:Type:=Bool×Int×Int
def q11p (v:q11o):St:=⟨[(4,.ptr 0 0)],[.cells [.bool v.1,u6 v.2.1,u6 v.2.2]]⟩
def q11q (C:q11b) (v:q11k):Dt q11o:=(Dt.ret ((!((decide (v.1<(0:Int))) == (decide (v.2.1<(0:Int))))),v.2.2.1,v.2.2.2.1))
theorem q11r C v:q348 (regO (qct f121) 2) false [(4,.any)] q11l q11q q11p C v:=rgI (by kernel_rfl)
def q11s (d:Nat) (x:q117):Option q118 :=
 (q11i (q11c d) (x.1.1,x.2.1.1)).eval fun y0 =>
 (q11m (q11c d) y0).eval fun y1 =>
 (q11q (q11c d) y1).eval fun y2 =>
 some y2
theorem q11t (d:Nat):COK prog (q11a (q11s d)):=by
 have hm:prog.follows .mixedOrders=true:=mixed
 have hT:=tys
 have hC0:OrcOK prog (orc (q11d (q11c d))):=qcn (by
  intro S hS
  simp only [q11d,List.mem_cons,List.not_mem_nil,or_false] at hS
  rcases hS with rfl | rfl
  · exact qmf d
  · exact q115 d)
 have hC:OrcOK prog (orc (q11d (q11c d))):=hC0
 refine q8c (c:=qct f121) (fn:=f121) hT (by kernel_rfl) (by kernel_rfl) (by decide) fun x r h w0 φ0 Q hend=>?_
 replace h:q11s d x=some r:=h
 unfold q11s at h
 show Run prog w0 φ0 23 (qct f121) ⟨[(0,.int .i64 x.1.1),(1,.int .i64 x.2.1.1)],[]⟩ Q
 refine q342 hm hT hC (q11j (q11c d) (x.1.1,x.2.1.1)) h fun y0 h=>?_
 refine q342 hm hT hC (q11n (q11c d) y0) h fun y1 h=>?_
 refine q342 hm hT hC (q11r (q11c d) y1) h fun y2 h=>?_
 refine q7v ?_
 cases h
 exact (hend _ (by kernel_rfl)).2
abbrev q11u:List Pk:=[.row Ru false]
abbrev q11v:Type:=Du×Unit
abbrev q11w:Type:=Bool
def q11x (r:q11w):LV×List Ob:=(.bool r,[])
def q11y (F:q11v→Option q11w):Go.Tx.Spec:=⟨180,q11u,q11w,F,q11x⟩
abbrev q11z:Type:=Unit
def q120 (_d:Nat):q11z:=()
def q121 (C:q11z):List Go.Tx.Spec:=[]
abbrev q122:Type:=Int
def q123 (v:q122):St:=⟨[(0,u6 v)],[]⟩
def q124 (C:q11z) (v:q122):Dt q122:=(Dt.ret v)
abbrev q349 {V Y:Type}:=@rg q11z V Y tysT (fun C=>(orc (q121 C))) 6
theorem q125 C v:q349 (regO (qct f180) 0) false [(0,.any)] q123 q124 q123 C v:=rgI (by kernel_rfl)
abbrev q126:Type:=Bool
def q127 (v:q126):St:=⟨[(2,.bool v)],[]⟩
def q128 (C:q11z) (v:q122):Dt q126:=(Dt.ret (v != v))
theorem q129 C v:q349 (regO (qct f180) 1) false [(2,.any)] q123 q128 q127 C v:=rgI (by kernel_rfl)
def q12a (d:Nat) (x:q11v):Option q11w :=
 (q124 (q120 d) x.1.1).eval fun y0 =>
 (q128 (q120 d) y0).eval fun y1 =>
 some y1
theorem q12b (d:Nat):COK prog (q11y (q12a d)):=by
 have hm:prog.follows .mixedOrders=true:=mixed
 have hT:=tys
 have hC0:OrcOK prog (orc (q121 (q120 d))):=qcn (by
  intro S hS
  simp only [q121,List.mem_cons,List.not_mem_nil,or_false] at hS
  all_goals first | cases hS | exact hS.elim)
 have hC:OrcOK prog (orc (q121 (q120 d))):=hC0
 refine q8c (c:=qct f180) (fn:=f180) hT (by kernel_rfl) (by kernel_rfl) (by decide) fun x r h w0 φ0 Q hend=>?_
 replace h:q12a d x=some r:=h
 unfold q12a at h
 show Run prog w0 φ0 6 (qct f180) ⟨[(0,.int .u64 x.1.1)],[]⟩ Q
 refine q342 hm hT hC (q125 (q120 d) x.1.1) h fun y0 h=>?_
 refine q342 hm hT hC (q129 (q120 d) y0) h fun y1 h=>?_
 refine q7v ?_
 cases h
 exact (hend _ (by kernel_rfl)).2
abbrev q12c:List Pk:=[.row Ru false,.row Ru false]
abbrev q12d:Type:=Du×Du×Unit
abbrev q12e:Type:=Int
def q12f (r:q12e):LV×List Ob:=(.int .i64 r,[])
def q12g (F:q12d→Option q12e):Go.Tx.Spec:=⟨154,q12c,q12e,F,q12f⟩
abbrev q12h:Type:=(q11v→Option q11w)×Unit
def q12i (d:Nat):q12h:=(q12a d,())
def q12j (C:q12h):List Go.Tx.Spec:=[q11y C.1]
abbrev q12k:Type:=Int×Int
def q12l (v:q12k):St:=⟨[(0,u6 v.1),(1,u6 v.2)],[]⟩
def q12m (C:q12h) (v:q12k):Dt q12k:=(Dt.ret (v.1,v.2))
abbrev q34a {V Y:Type}:=@rg q12h V Y tysT (fun C=>(orc (q12j C))) 20
theorem q12n C v:q34a (regO (qct f154) 0) false (an [0,1]) q12l q12m q12l C v:=rgI (by kernel_rfl)
abbrev q12o:Type:=Int×Int×Bool
def q12p (v:q12o):St:=⟨[(0,u6 v.1),(1,u6 v.2.1),(5,.bool v.2.2)],[]⟩
def q12q (C:q12h) (v:q12k):Dt q12o:=(Dt.bnd (C.1 ((v.1,()),())) fun r1=>(Dt.ret (v.1,v.2,r1)))
theorem q12r C v:q34a (regO (qct f154) 1) false (an [0,1,5]) q12l q12q q12p C v:=rgI (by kernel_rfl)
abbrev q12s:Type:=Int×Int×Bool×Bool
def q12t (v:q12s):St:=⟨[(0,u6 v.1),(1,u6 v.2.1),(5,.bool v.2.2.1),(6,.bool v.2.2.2)],[]⟩
def q12u (C:q12h) (v:q12o):Dt q12s:=(Dt.bnd (C.1 ((v.2.1,()),())) fun r1=>(Dt.ret (v.1,v.2.1,v.2.2,r1)))
theorem q12v C v:q34a (regO (qct f154) 2) false (an [0,1,5,6]) q12p q12u q12t C v:=rgI (by kernel_rfl)
abbrev q12w:Type:=Int×Int×Bool×Bool
def q12x (v:q12w):St:=⟨[(0,u6 v.1),(1,u6 v.2.1),(6,.bool v.2.2.1),(11,.bool v.2.2.2)],[]⟩
def q12y (C:q12h) (v:q12s):Dt q12w:=(Dt.ret (v.1,v.2.1,v.2.2.2,v.2.2.1))
theorem q12z C v:q34a (regO (qct f154) 3) false (an [0,1,6,11]) q12t q12y q12x C v:=rgI (by kernel_rfl)
abbrev q130:Type:=Bool
def q131 (v:q130):St:=⟨[(12,.bool v)],[]⟩
def q132 (C:q12h) (v:q12w):Dt q130:=(Dt.ret v.2.2.1)
theorem q133 C v:q34a (regO (qct f154) 4) false [(12,.any)] q12x q132 q131 C v:=rgI (by kernel_rfl)
abbrev q134:Type:=Int
def q135 (v:q134):St:=⟨[(4,i6 v)],[]⟩
def q136 (C:q12h) (v:q130):Dt q134:=(Dt.ret (0:Int))
theorem q137 C v:q34a (regO (qct f154) 5) false [(4,.any)] q131 q136 q135 C v:=rgI (by kernel_rfl)
def q138 (C:q12h) (v:q130):Dt q134:=(Dt.ret (-1:Int))
theorem q139 C v:q34a (regO (qct f154) 6) false [(4,.any)] q131 q138 q135 C v:=rgI (by kernel_rfl)
abbrev q13a:Type:=Int×Int×Bool
def q13b (v:q13a):St:=⟨[(0,u6 v.1),(1,u6 v.2.1),(13,.bool v.2.2)],[]⟩
def q13c (C:q12h) (v:q12w):Dt q13a:=(Dt.ret (v.1,v.2.1,v.2.2.1))
theorem q13d C v:q34a (regO (qct f154) 7) false (an [0,1,13]) q12x q13c q13b C v:=rgI (by kernel_rfl)
def q13e (C:q12h) (v:q13a):Dt q134:=(Dt.ret (1:Int))
theorem q13f C v:q34a (regO (qct f154) 8) false [(4,.any)] q13b q13e q135 C v:=rgI (by kernel_rfl)
abbrev q13g:Type:=Int×Int×Bool
def q13h (v:q13g):St:=⟨[(0,u6 v.1),(1,u6 v.2.1),(16,.bool v.2.2)],[]⟩
def q13i (C:q12h) (v:q13a):Dt q13g:=(Dt.ret (v.1,v.2.1,(decide (v.1<v.2.1))))
theorem q13j C v:q34a (regO (qct f154) 9) false (an [0,1,16]) q13b q13i q13h C v:=rgI (by kernel_rfl)
def q13k (C:q12h) (v:q13g):Dt q134:=(Dt.ret (-1:Int))
theorem q13l C v:q34a (regO (qct f154) 10) false [(4,.any)] q13h q13k q135 C v:=rgI (by kernel_rfl)
abbrev q13m:Type:=Bool
def q13n (v:q13m):St:=⟨[(19,.bool v)],[]⟩
def q13o (C:q12h) (v:q13g):Dt q13m:=(Dt.ret (decide (v.1 > v.2.1)))
theorem q13p C v:q34a (regO (qct f154) 11) false [(19,.any)] q13h q13o q13n C v:=rgI (by kernel_rfl)
def q13q (C:q12h) (v:q13m):Dt q134:=(Dt.ret (1:Int))
theorem q13r C v:q34a (regO (qct f154) 12) false [(4,.any)] q13n q13q q135 C v:=rgI (by kernel_rfl)
def q13s (C:q12h) (v:q13m):Dt q134:=(Dt.ret (0:Int))
theorem q13t C v:q34a (regO (qct f154) 13) false [(4,.any)] q13n q13s q135 C v:=rgI (by kernel_rfl)
def q13u (d:Nat) (x:q12d):Option q12e :=
 (q12m (q12i d) (x.1.1,x.2.1.1)).eval fun y0 =>
 (q12q (q12i d) y0).eval fun y1 =>
 (q12u (q12i d) y1).eval fun y2 =>
 (q12y (q12i d) y2).eval fun y3 =>
 bif y3.2.2.2 then ((q132 (q12i d) y3).eval fun y4 =>
 bif y4 then ((q136 (q12i d) y4).eval fun y5 =>
 some y5) else ((q138 (q12i d) y4).eval fun y6 =>
 some y6)) else ((q13c (q12i d) y3).eval fun y7 =>
 bif y7.2.2 then ((q13e (q12i d) y7).eval fun y8 =>
 some y8) else ((q13i (q12i d) y7).eval fun y9 =>
 bif y9.2.2 then ((q13k (q12i d) y9).eval fun y10 =>
 some y10) else ((q13o (q12i d) y9).eval fun y11 =>
 bif y11 then ((q13q (q12i d) y11).eval fun y12 =>
 some y12) else ((q13s (q12i d) y11).eval fun y13 =>
 some y13))))
theorem q13v (d:Nat):COK prog (q12g (q13u d)):=by
 have hm:prog.follows .mixedOrders=true:=mixed
 have hT:=tys
 have hC0:OrcOK prog (orc (q12j (q12i d))):=qcn (by
  intro S hS
  simp only [q12j,List.mem_cons,List.not_mem_nil,or_false] at hS
  subst hS;exact q12b d)
 have hC:OrcOK prog (orc (q12j (q12i d))):=hC0
 refine q8c (c:=qct f154) (fn:=f154) hT (by kernel_rfl) (by kernel_rfl) (by decide) fun x r h w0 φ0 Q hend=>?_
 replace h:q13u d x=some r:=h
 unfold q13u at h
 show Run prog w0 φ0 20 (qct f154) ⟨[(0,.int .u64 x.1.1),(1,.int .u64 x.2.1.1)],[]⟩ Q
 refine q342 hm hT hC (q12n (q12i d) (x.1.1,x.2.1.1)) h fun y0 h=>?_
 refine q342 hm hT hC (q12r (q12i d) y0) h fun y1 h=>?_
 refine q342 hm hT hC (q12v (q12i d) y1) h fun y2 h=>?_
 refine q7w ?_
 refine q342 hm hT hC (q12z (q12i d) y2) h fun y3 h=>?_
 refine q80 (v:=y3.2.2.2) (by kernel_rfl) h ?_ ?_
 ·
  intro h
  refine q7w ?_
  refine q342 hm hT hC (q133 (q12i d) y3) h fun y4 h=>?_
  refine q80 (v:=y4) (by kernel_rfl) h ?_ ?_
  ·
   intro h
   refine q342 hm hT hC (q137 (q12i d) y4) h fun y5 h=>?_
   refine q7v (q7k (q7k ?_))
   cases h
   exact (hend _ (by kernel_rfl)).2
  ·
   intro h
   refine q7s (q7i ?_)
   refine q342 hm hT hC (q139 (q12i d) y4) h fun y6 h=>?_
   refine q7v (q7k ?_)
   cases h
   exact (hend _ (by kernel_rfl)).2
 ·
  intro h
  refine q7s (q7i (q7w ?_))
  refine q342 hm hT hC (q13d (q12i d) y3) h fun y7 h=>?_
  refine q80 (v:=y7.2.2) (by kernel_rfl) h ?_ ?_
  ·
   intro h
   refine q342 hm hT hC (q13f (q12i d) y7) h fun y8 h=>?_
   refine q7v (q7k ?_)
   cases h
   exact (hend _ (by kernel_rfl)).2
  ·
   intro h
   refine q7s (q7i (q7w ?_))
   refine q342 hm hT hC (q13j (q12i d) y7) h fun y9 h=>?_
   refine q80 (v:=y9.2.2) (by kernel_rfl) h ?_ ?_
   ·
    intro h
    refine q342 hm hT hC (q13l (q12i d) y9) h fun y10 h=>?_
    refine q7v (q7k ?_)
    cases h
    exact (hend _ (by kernel_rfl)).2
   ·
    intro h
    refine q7s (q7i (q7w ?_))
    refine q342 hm hT hC (q13p (q12i d) y9) h fun y11 h=>?_
    refine q80 (v:=y11) (by kernel_rfl) h ?_ ?_
    ·
     intro h
     refine q342 hm hT hC (q13r (q12i d) y11) h fun y12 h=>?_
     refine q7v (q7k ?_)
     cases h
     exact (hend _ (by kernel_rfl)).2
    ·
     intro h
     refine q7s (q7i ?_)
     refine q342 hm hT hC (q13t (q12i d) y11) h fun y13 h=>?_
     refine q7v ?_
     cases h
     exact (hend _ (by kernel_rfl)).2
abbrev q13w:List Pk:=[.row Rbuu true,.row Rbuu true]
abbrev q13x:Type:=Dbuu×Dbuu×Unit
abbrev q13y:Type:=Int
def q13z (r:q13y):LV×List Ob:=(.int .i64 r,[])
def q140 (F:q13x→Option q13y):Go.Tx.Spec:=⟨127,q13w,q13y,F,q13z⟩
abbrev q141:Type:=(q12d→Option q12e)×Unit
def q142 (d:Nat):q141:=(q13u d,())
def q143 (C:q141):List Go.Tx.Spec:=[q12g C.1]
abbrev q144:Type:=Bool×Int×Int×Bool×Int×Int
def q145 (v:q144):St:=⟨[(0,.agg [.bool v.1,u6 v.2.1,u6 v.2.2.1]),(1,.agg [.bool v.2.2.2.1,u6 v.2.2.2.2.1,u6 v.2.2.2.2.2])],[]⟩
abbrev q146:Type:=Bool×Int×Int×Bool×Int×Int
def q147 (v:q146):St:=⟨[(2,.ptr 0 0),(3,.ptr 1 0)],[.cells [.bool v.1,u6 v.2.1,u6 v.2.2.1],.cells [.bool v.2.2.2.1,u6 v.2.2.2.2.1,u6 v.2.2.2.2.2]]⟩
def q148 (C:q141) (v:q144):Dt q146:=(Dt.ret (v.1,v.2.1,v.2.2.1,v.2.2.2.1,v.2.2.2.2.1,v.2.2.2.2.2))
abbrev q34b {V Y:Type}:=@rg q141 V Y tysT (fun C=>(orc (q143 C))) 19
theorem q149 C v:q34b (regO (qct f127) 0) false (an [2,3]) q145 q148 q147 C v:=rgI (by kernel_rfl)
abbrev q14a:Type:=Int×Bool×Int×Int×Bool×Int×Int
def q14b (v:q14a):St:=⟨[(2,.ptr 0 0),(3,.ptr 1 0),(5,i6 v.1)],[.cells [.bool v.2.1,u6 v.2.2.1,u6 v.2.2.2.1],.cells [.bool v.2.2.2.2.1,u6 v.2.2.2.2.2.1,u6 v.2.2.2.2.2.2]]⟩
def q14c (C:q141) (v:q146):Dt q14a:=(Dt.bnd (C.1 ((v.2.1,()),(v.2.2.2.2.1,()),())) fun r1=>(Dt.ret (r1,v.1,v.2.1,v.2.2.1,v.2.2.2.1,v.2.2.2.2.1,v.2.2.2.2.2)))
theorem q14d C v:q34b (regO (qct f127) 1) false (an [2,3,5]) q147 q14c q14b C v:=rgI (by kernel_rfl)
abbrev q14e:Type:=Int×Bool×Bool×Int×Int×Bool×Int×Int
def q14f (v:q14e):St:=⟨[(2,.ptr 0 0),(3,.ptr 1 0),(5,i6 v.1),(12,.bool v.2.1)],[.cells [.bool v.2.2.1,u6 v.2.2.2.1,u6 v.2.2.2.2.1],.cells [.bool v.2.2.2.2.2.1,u6 v.2.2.2.2.2.2.1,u6 v.2.2.2.2.2.2.2]]⟩
def q14g (C:q141) (v:q14a):Dt q14e:=(Dt.ret (v.1,(v.1 != (0:Int)),v.2.1,v.2.2.1,v.2.2.2.1,v.2.2.2.2.1,v.2.2.2.2.2.1,v.2.2.2.2.2.2))
theorem q14h C v:q34b (regO (qct f127) 2) false (an [2,3,5,12]) q14b q14g q14f C v:=rgI (by kernel_rfl)
abbrev q14i:Type:=Int
def q14j (v:q14i):St:=⟨[(4,i6 v)],[]⟩
def q14k (C:q141) (v:q14e):Dt q14i:=(Dt.ret v.1)
theorem q14l C v:q34b (regO (qct f127) 3) false [(4,.any)] q14f q14k q14j C v:=rgI (by kernel_rfl)
def q14m (C:q141) (v:q14e):Dt q14i:=(Dt.bnd (C.1 ((v.2.2.2.2.1,()),(v.2.2.2.2.2.2.2,()),())) fun r1=>(Dt.ret r1))
theorem q14n C v:q34b (regO (qct f127) 4) false [(4,.any)] q14f q14m q14j C v:=rgI (by kernel_rfl)
def q14o (d:Nat) (x:q13x):Option q13y :=
 (q148 (q142 d) (x.1.1,x.1.2.1,x.1.2.2.1,x.2.1.1,x.2.1.2.1,x.2.1.2.2.1)).eval fun y0 =>
 (q14c (q142 d) y0).eval fun y1 =>
 (q14g (q142 d) y1).eval fun y2 =>
 bif y2.2.1 then ((q14k (q142 d) y2).eval fun y3 =>
 some y3) else ((q14m (q142 d) y2).eval fun y4 =>
 some y4)
theorem q14p (d:Nat):COK prog (q140 (q14o d)):=by
 have hm:prog.follows .mixedOrders=true:=mixed
 have hT:=tys
 have hC0:OrcOK prog (orc (q143 (q142 d))):=qcn (by
  intro S hS
  simp only [q143,List.mem_cons,List.not_mem_nil,or_false] at hS
  subst hS;exact q13v d)
 have hC:OrcOK prog (orc (q143 (q142 d))):=hC0
 refine q8c (c:=qct f127) (fn:=f127) hT (by kernel_rfl) (by kernel_rfl) (by decide) fun x r h w0 φ0 Q hend=>?_
 replace h:q14o d x=some r:=h
 unfold q14o at h
 show Run prog w0 φ0 19 (qct f127) ⟨[(0,.agg [.bool x.1.1,.int .u64 x.1.2.1,.int .u64 x.1.2.2.1]),(1,.agg [.bool x.2.1.1,.int .u64 x.2.1.2.1,.int .u64 x.2.1.2.2.1])],[]⟩ Q
 refine q342 hm hT hC (q149 (q142 d) (x.1.1,x.1.2.1,x.1.2.2.1,x.2.1.1,x.2.1.2.1,x.2.1.2.2.1)) h fun y0 h=>?_
 refine q7w ?_
 refine q342 hm hT hC (q14d (q142 d) y0) h fun y1 h=>?_
 refine q342 hm hT hC (q14h (q142 d) y1) h fun y2 h=>?_
 refine q80 (v:=y2.2.1) (by kernel_rfl) h ?_ ?_
 ·
  intro h
  refine q342 hm hT hC (q14l (q142 d) y2) h fun y3 h=>?_
  refine q7v (q7k ?_)
  cases h
  exact (hend _ (by kernel_rfl)).2
 ·
  intro h
  refine q7s (q7i ?_)
  refine q342 hm hT hC (q14n (q142 d) y2) h fun y4 h=>?_
  refine q7v ?_
  cases h
  exact (hend _ (by kernel_rfl)).2
abbrev q14q:List Pk:=[.row Rii true,.row Rii true]
abbrev q14r:Type:=Dii×Dii×Unit
abbrev q14s:Type:=Int×Int
def q14t (r:q14s):LV×List Ob:=(.tup [.int .i64 r.1,.int .i64 r.2],[])
def q14u (F:q14r→Option q14s):Go.Tx.Spec:=⟨64,q14q,q14s,F,q14t⟩
abbrev q14v:Type:=(qxx→Option qxy)×(q117→Option q118)×(qyz→Option qz0)×(q13x→Option q13y)×Unit
def q14w (d:Nat):q14v:=(qye d,q11s d,q10g d,q14o d,())
def q14x (C:q14v):List Go.Tx.Spec:=[qy0 C.1,q11a C.2.1,qz2 C.2.2.1,q140 C.2.2.2.1]
abbrev q14y:Type:=Int×Int×Int×Int
def q14z (v:q14y):St:=⟨[(0,.agg [i6 v.1,i6 v.2.1]),(1,.agg [i6 v.2.2.1,i6 v.2.2.2])],[]⟩
abbrev q150:Type:=Int×Int×Int×Int
def q151 (v:q150):St:=⟨[(2,.ptr 0 0),(3,.ptr 1 0)],[.cells [i6 v.1,i6 v.2.1],.cells [i6 v.2.2.1,i6 v.2.2.2]]⟩
def q152 (C:q14v) (v:q14y):Dt q150:=(Dt.ret (v.1,v.2.1,v.2.2.1,v.2.2.2))
abbrev q34c {V Y:Type}:=@rg q14v V Y tysT (fun C=>(orc (q14x C))) 43
theorem q153 C v:q34c (regO (qct f64) 0) false (an [2,3]) q14z q152 q151 C v:=rgI (by kernel_rfl)
abbrev q154:Type:=Int×Int×Int×Int×Int
def q155 (v:q154):St:=⟨[(2,.ptr 0 0),(3,.ptr 1 0),(6,i6 v.1)],[.cells [i6 v.2.1,i6 v.2.2.1],.cells [i6 v.2.2.2.1,i6 v.2.2.2.2]]⟩
def q156 (C:q14v) (v:q150):Dt q154:=(Dt.bnd (C.1 ((v.1,v.2.1,()),(v.2.2.1,v.2.2.2,()),())) fun r1=>(Dt.ret (r1,v.1,v.2.1,v.2.2.1,v.2.2.2)))
theorem q157 C v:q34c (regO (qct f64) 1) false (an [2,3,6]) q151 q156 q155 C v:=rgI (by kernel_rfl)
abbrev q158:Type:=Int×Bool×Int×Int×Int×Int
def q159 (v:q158):St:=⟨[(2,.ptr 0 0),(3,.ptr 1 0),(6,i6 v.1),(12,.bool v.2.1)],[.cells [i6 v.2.2.1,i6 v.2.2.2.1],.cells [i6 v.2.2.2.2.1,i6 v.2.2.2.2.2]]⟩
def q15a (C:q14v) (v:q154):Dt q158:=(Dt.ret (v.1,(v.1 != (0:Int)),v.2.1,v.2.2.1,v.2.2.2.1,v.2.2.2.2))
theorem q15b C v:q34c (regO (qct f64) 2) false (an [2,3,6,12]) q155 q15a q159 C v:=rgI (by kernel_rfl)
abbrev q15c:Type:=Int×Int
def q15d (v:q15c):St:=⟨[(4,i6 v.1),(5,i6 v.2)],[]⟩
def q15e (C:q14v) (v:q158):Dt q15c:=(Dt.ret ((0:Int),v.1))
theorem q15f C v:q34c (regO (qct f64) 3) false (an [4,5]) q159 q15e q15d C v:=rgI (by kernel_rfl)
abbrev q15g:Type:=Bool×Int×Int×Int×Int
def q15h (v:q15g):St:=⟨[(2,.ptr 0 0),(3,.ptr 1 0),(20,.bool v.1)],[.cells [i6 v.2.1,i6 v.2.2.1],.cells [i6 v.2.2.2.1,i6 v.2.2.2.2]]⟩
def q15i (C:q14v) (v:q158):Dt q15g:=(Dt.ret ((!((decide (v.2.2.1<(0:Int))) == (decide (v.2.2.2.2.1<(0:Int))))),v.2.2.1,v.2.2.2.1,v.2.2.2.2.1,v.2.2.2.2.2))
theorem q15j C v:q34c (regO (qct f64) 4) false (an [2,3,20]) q159 q15i q15h C v:=rgI (by kernel_rfl)
def q15k (C:q14v) (v:q15g):Dt q15c:=(Dt.bnd (C.2.2.1 ((v.2.1,()),(v.2.2.2.1,()),())) fun r1=>(Dt.ret (r1,(0:Int))))
theorem q15l C v:q34c (regO (qct f64) 5) false (an [4,5]) q15h q15k q15d C v:=rgI (by kernel_rfl)
abbrev q15m:Type:=Int×Int×Int
def q15n (v:q15m):St:=⟨[(2,.ptr 0 0),(7,i6 v.1)],[.cells [i6 v.2.1,i6 v.2.2]]⟩
def q15o (C:q14v) (v:q15g):Dt q15m:=(Dt.bnd (C.2.1 ((v.2.1,()),(v.2.2.2.2,()),())) fun r1=>(Dt.bnd (C.2.1 ((v.2.2.2.1,()),(v.2.2.1,()),())) fun r2=>(Dt.bnd (C.2.2.2.1 ((r1.1,r1.2.1,r1.2.2,()),(r2.1,r2.2.1,r2.2.2,()),())) fun r3=>(Dt.ret (r3,v.2.1,v.2.2.1)))))
theorem q15p C v:q34c (regO (qct f64) 6) true (an [2,7]) q15h q15o q15n C v:=rgI (by kernel_rfl)
abbrev q15q:Type:=Int×Bool
def q15r (v:q15q):St:=⟨[(7,i6 v.1),(39,.bool v.2)],[]⟩
def q15s (C:q14v) (v:q15m):Dt q15q:=(Dt.ret (v.1,(decide (v.2.1<(0:Int)))))
theorem q15t C v:q34c (regO (qct f64) 7) false (an [7,39]) q15n q15s q15r C v:=rgI (by kernel_rfl)
abbrev q15u:Type:=Int
def q15v (v:q15u):St:=⟨[(7,i6 v)],[]⟩
def q15w (C:q14v) (v:q15q):Dt q15u:=(Dt.ret (IntKind.wrap .i64 (0 - v.1)))
theorem q15x C v:q34c (regO (qct f64) 8) false [(7,.any)] q15r q15w q15v C v:=rgI (by kernel_rfl)
def q15y (C:q14v) (v:q15u):Dt q15c:=(Dt.ret (v,(0:Int)))
theorem q15z C v:q34c (regO (qct f64) 9) false (an [4,5]) q15v q15y q15d C v:=rgI (by kernel_rfl)
def q160  (d:Nat)  (z:Int):Option (q14s) :=
 (q15y (q14w d) z).eval fun y9 =>
 some y9
def q161 (d:Nat) (x:q14r):Option q14s :=
 (q152 (q14w d) (x.1.1,x.1.2.1,x.2.1.1,x.2.1.2.1)).eval fun y0 =>
 (q156 (q14w d) y0).eval fun y1 =>
 (q15a (q14w d) y1).eval fun y2 =>
 bif y2.2.1 then ((q15e (q14w d) y2).eval fun y3 =>
 some y3) else ((q15i (q14w d) y2).eval fun y4 =>
 bif y4.1 then ((q15k (q14w d) y4).eval fun y5 =>
 some y5) else ((q15o (q14w d) y4).eval fun y6 =>
 (q15s (q14w d) y6).eval fun y7 =>
 bif y7.2 then ((q15w (q14w d) y7).eval fun y8 =>
 q160 d  y8) else (q160 d  y7.1)))
theorem q162 (d:Nat):COK prog (q14u (q161 d)):=by
 have hm:prog.follows .mixedOrders=true:=mixed
 have hT:=tys
 have hC0:OrcOK prog (orc (q14x (q14w d))):=qcn (by
  intro S hS
  simp only [q14x,List.mem_cons,List.not_mem_nil,or_false] at hS
  rcases hS with rfl | rfl | rfl | rfl
  · exact qyf d
  · exact q11t d
  · exact q10h d
  · exact q14p d)
 have hC:OrcOK prog (orc (q14x (q14w d))):=hC0
 refine q8c (c:=qct f64) (fn:=f64) hT (by kernel_rfl) (by kernel_rfl) (by decide) fun x r h w0 φ0 Q hend=>?_
 replace h:q161 d x=some r:=h
 unfold q161 at h
 show Run prog w0 φ0 43 (qct f64) ⟨[(0,.agg [.int .i64 x.1.1,.int .i64 x.1.2.1]),(1,.agg [.int .i64 x.2.1.1,.int .i64 x.2.1.2.1])],[]⟩ Q
 refine q342 hm hT hC (q153 (q14w d) (x.1.1,x.1.2.1,x.2.1.1,x.2.1.2.1)) h fun y0 h=>?_
 refine q7w ?_
 refine q342 hm hT hC (q157 (q14w d) y0) h fun y1 h=>?_
 refine q342 hm hT hC (q15b (q14w d) y1) h fun y2 h=>?_
 refine q80 (v:=y2.2.1) (by kernel_rfl) h ?_ ?_
 ·
  intro h
  refine q342 hm hT hC (q15f (q14w d) y2) h fun y3 h=>?_
  refine q7v (q7k ?_)
  cases h
  exact (hend _ (by kernel_rfl)).2
 ·
  intro h
  refine q7s (q7i (q7w ?_))
  refine q342 hm hT hC (q15j (q14w d) y2) h fun y4 h=>?_
  refine q80 (v:=y4.1) (by kernel_rfl) h ?_ ?_
  ·
   intro h
   refine q342 hm hT hC (q15l (q14w d) y4) h fun y5 h=>?_
   refine q7v (q7k ?_)
   cases h
   exact (hend _ (by kernel_rfl)).2
  ·
   intro h
   refine q7s (q7i ?_)
   refine q342 hm hT hC (q15p (q14w d) y4) h fun y6 h=>?_
   refine q7z (r:=r) (F:=q160 d ) (S:=(fun z=>⟨[(7,i6 z)],[]⟩:Int→St)) ?_ ?_
   ·
    intro z h
    unfold q160 at h
    refine q342 hm hT hC (q15z (q14w d) z) h fun y9 h=>?_
    refine q7v ?_
    cases h
    exact (hend _ (by kernel_rfl)).2
   intro hj1
   refine q342 hm hT hC (q15t (q14w d) y6) h fun y7 h=>?_
   refine q80 (v:=y7.2) (by kernel_rfl) h ?_ ?_
   ·
    intro h
    refine q81 hm hT hC (q15x (q14w d) y7) h ?_
    intro y8 h
    exact hj1 _ h
   ·
    intro h
    refine q7s ?_
    refine qcs (s:=⟨[(7,.int .i64 y7.1)],[]⟩) [39] (by kernel_rfl) ?_
    exact hj1 _ h
end Go.Proofs.YtpfhgnccpiildaaGreat

namespace Go.Tx
open Go
def q1ct (x y c:Int):Option (Int×Int):=bif decide (0≤x)&&decide (x<18446744073709551616)&&decide (0≤y)&&decide (y<18446744073709551616)&&decide (0≤c)&&decide (c≤1) then some ((x+y+c) % 18446744073709551616,(x+y+c) / 18446744073709551616) else none
def q1cu (x y c:Int):Option (Int×Int):=bif decide (0≤x)&&decide (x<18446744073709551616)&&decide (0≤y)&&decide (y<18446744073709551616)&&decide (0≤c)&&decide (c≤1) then some ((x - y - c) % 18446744073709551616,bif decide (x<y+c) then 1 else 0) else none
def orcI (f:FuncId) (G:Int→Int→Int→Option (Int×Int)) (C:Orc):Orc:=fun h args H =>
  bif Nat.beq h f then (match args with
    | [.int .u64 x,.int .u64 y,.int .u64 c]=>some ⟨Int×Int,G x y c,fun r=>(.tup [.int .u64 r.1,.int .u64 r.2],H)⟩
    | _=>none) else C h args H
theorem q1cv {P:Program} {f:FuncId} {G:Int→Int→Int→Option (Int×Int)} (hG:∀ x y c r,G x y c=some r→∀ w,(callFunc f #[.int .u64 x,.int .u64 y,.int .u64 c]).run P w=.ok (.value (.tuple #[.int .u64 r.1,.int .u64 r.2])) w) {C:Orc} (hC:OrcOK P C):OrcOK P (orcI f G C):=by
  refine ⟨fun h args H p x hp hx=>?_⟩
  unfold orcI at hp
  rw [Bool.cond_eq_ite] at hp
  split at hp
  · rename_i he
    have he:=Nat.eq_of_beq_eq_true he
    subst he
    split at hp
    · rename_i x0 y0 c0
      injection hp with hp;subst hp
      refine .inr ⟨rfl,fun η w vs hv=>?_⟩
      obtain ⟨v0,vs',rfl,q0,hv⟩:=hv.uncons
      obtain ⟨v1,v2,rfl,q1,q2⟩:=vrs2 hv
      cases q0;cases q1;cases q2
      exact ⟨_,hG x0 y0 c0 x hx w,.tup rfl (VRs.cons (.int _ _) (VRs.cons (.int _ _) VRs.nil)).2⟩
    · cases hp
  · exact hC.call h args H p x hp hx
theorem q1cw {x y c:Int} {r:Int×Int} (h:q1ct x y c=some r):∃ a b d:Nat,x=a∧y=b∧c=d∧a<18446744073709551616∧b<18446744073709551616∧d≤1∧r=((((a+b+d) % 18446744073709551616:Nat):Int),(((a+b+d) / 18446744073709551616:Nat):Int)):=by
  unfold q1ct at h
  rw [Bool.cond_eq_ite] at h
  split at h
  · rename_i hc
    simp only [Bool.and_eq_true,decide_eq_true_eq] at hc
    injection h with h
    refine ⟨x.toNat,y.toNat,c.toNat,by omega,by omega,by omega,by omega,by omega,by omega,?_⟩
    rw [← h]
    refine Prod.ext ?_ ?_<;>simp only<;>omega
  · cases h
theorem q1cx {x y c:Int} {r:Int×Int} (h:q1cu x y c=some r):∃ a b d:Nat,x=a∧y=b∧c=d∧a<18446744073709551616∧b<18446744073709551616∧d≤1∧r=((((a+18446744073709551616 - b - d) % 18446744073709551616:Nat):Int),((if a<b+d then 1 else 0:Nat):Int)):=by
  unfold q1cu at h
  rw [Bool.cond_eq_ite] at h
  split at h
  · rename_i hc
    simp only [Bool.and_eq_true,decide_eq_true_eq] at hc
    injection h with h
    refine ⟨x.toNat,y.toNat,c.toNat,by omega,by omega,by omega,by omega,by omega,by omega,?_⟩
    rw [← h]
    refine Prod.ext ?_ ?_
    · simp only;omega
    · simp only [Bool.cond_eq_ite, decide_eq_true_eq]
      split<;>split<;>first | rfl | omega
  · cases h
end Go.Tx

namespace Go.Proofs.YtpfhgnccpiildaaGreat
open Go Go.Tx Go.Proofs.Tryz
theorem q1cy:∀ x y c r,q1ct x y c=some r→∀ w,(callFunc 145 #[.int .u64 x,.int .u64 y,.int .u64 c]).run Tryz.prog w=.ok (.value (.tuple #[.int .u64 r.1,.int .u64 r.2])) w:=by
  intro x y c r h w
  obtain ⟨a,b,d,rfl,rfl,rfl,ha,hb,hd,rfl⟩:=q1cw h
  rw [run_callFunc_extern Tryz.func145 (by kernel_rfl) (by kernel_rfl) (by kernel_rfl) (e:=add64Entry) (by kernel_rfl),run_add64 a b d (by omega) (by omega) (by omega) (by omega)]
  simp only [Result.andThen]
  congr 5<;>omega
theorem q1cz:∀ x y c r,q1cu x y c=some r→∀ w,(callFunc 106 #[.int .u64 x,.int .u64 y,.int .u64 c]).run Tryz.prog w=.ok (.value (.tuple #[.int .u64 r.1,.int .u64 r.2])) w:=by
  intro x y c r h w
  obtain ⟨a,b,d,rfl,rfl,rfl,ha,hb,hd,rfl⟩:=q1cx h
  rw [run_callFunc_extern Tryz.func106 (by kernel_rfl) (by kernel_rfl) (by kernel_rfl) (e:=sub64Entry) (by kernel_rfl),run_sub64 a b d hd]
  rfl
end Go.Proofs.YtpfhgnccpiildaaGreat
