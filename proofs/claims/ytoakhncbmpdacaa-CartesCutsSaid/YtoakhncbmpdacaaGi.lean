/- Walks of the references; the orders agree; examples. -/
import Derived.Test.YtoakhncbmpdacaaRows
import Derived.ProofKit
import Derived.OpenShut
import Derived.ShutString
import Derived.ChangeOld
import Derived.Deep.Slices
import Derived.Test.YtoakhncbmpdacaaGh
set_option linter.unusedSimpArgs false
set_option linter.unusedVariables false
namespace Go.Proofs.Ytoakhncbmpdacaa
open Go Go.Tx Go.Proofs.Try
set_option maxRecDepth 100000
set_option maxHeartbeats 0
end Go.Proofs.Ytoakhncbmpdacaa

namespace Go
open Go.ChangeShapes Go.WideShapes Go.ChangeAt Go.RowKit
section
variable {H:Type} {enc:TypeId×Value→H} {P:Program} {w:World} {base:Nat} {spare:Nat→Bool} {held:Bool}
theorem q33b {t:TypeId} {fs:Array Field} {fuel:Nat} {cs:List Value} {x:DataW H×List MemPlace} (hs:P.underlying t=some (.struct fs)) (h:DataW.trod enc P w base spare held fuel t cs=some x)
    {i:Nat} {f:Field} (hf:fs[i]?=some f) {off n:Nat} {ft:TypeId} (ho:f.offset=off) (ht:f.type=ft) (hn:P.cellsOf ft=n):∃ m y,DataW.trod enc P w base spare held m ft ((cs.drop off).take n)=some y:=by
  obtain ⟨xs,m,_,_,_,hlen,hg⟩:=DataW.trod_struct hs h
  have h1:=hg i f hf
  subst ho ht hn
  have hi:i<xs.length:=by rw [hlen];exact (Array.getElem?_eq_some_iff.1 hf).1
  exact ⟨m,xs[i],by rw [h1,List.getElem?_eq_getElem hi]⟩
theorem q33c {t:TypeId} {k:IntKind} {fuel:Nat} {cs:List Value} {x:DataW H×List MemPlace} (ht:P.underlying t=some (.int k)) (h:DataW.trod enc P w base spare held fuel t cs=some x):∃ n,cs=[.int k n]∧(Lit.int k n).wf=true:=by
  obtain ⟨n,h1,_,h2⟩:=DataW.trod_int ht h;exact ⟨n,h1,h2⟩
theorem q33d {n:Int} (h:(Lit.int .i64 n).wf=true):-9223372036854775808≤n∧n≤9223372036854775807:=bounds_i64 h
end
end Go
namespace Go.Proofs.Ytoakhncbmpdacaa
open Go.ChangeShapes Go.WideShapes Go.ChangeAt Go.RowKit
theorem q33h:ownKnob Try.prog.godebug=none:=by kernel_rfl
theorem q33i:laidOutB Try.prog=true:=by kernel_rfl
end Go.Proofs.Ytoakhncbmpdacaa

namespace Go
open Go.ChangeShapes Go.WideShapes Go.ChangeAt Go.RowKit Go.Deep
theorem q33j {α:Type} {p:Nat→α→Prop}:∀ n:Nat,(∀ i,i<n→∃ v,p i v)→∃ l:List α,l.length=n∧∀ (i:Nat) (x:α),l[i]?=some x→p i x
  | 0,_=>⟨[],rfl,fun i x h=>by simp at h⟩
  | n + 1, h => by
    obtain ⟨l,hl,hp⟩:=q33j n fun i hi=>h i (by omega)
    obtain ⟨v,hv⟩:=h n (by omega)
    refine ⟨l ++ [v],by simp [hl],fun i x hx=>?_⟩
    rcases Nat.lt_or_ge i n with hi | hi
    · rw [List.getElem?_append_left (by omega)] at hx;exact hp i x hx
    · rw [List.getElem?_append_right (by omega)] at hx
      have:i=n:=by
        have:=(List.getElem?_eq_some_iff.1 hx).1
        simp at this;omega
      subst this
      simp [hl] at hx
      subst hx;exact hv
theorem qe {α:Type} {cells:α→List Value} {k:Nat} (hk:∀ a,(cells a).length=k) (h0:0<k):∀ (l:List α) (j:Nat) (u:Value),(l.flatMap cells)[j]?=some u→∃ x,l[j / k]?=some x∧(cells x)[j % k]?=some u
  | [],j,u,h=>by simp at h
  | x :: l, j, u, h => by
    rw [List.flatMap_cons] at h
    rcases Nat.lt_or_ge j k with hj | hj
    · rw [List.getElem?_append_left (by rw [hk]; exact hj)] at h
      rw [Nat.div_eq_of_lt hj,Nat.mod_eq_of_lt hj]
      exact ⟨x,rfl,h⟩
    · rw [List.getElem?_append_right (by rw [hk]; exact hj), hk] at h
      obtain ⟨y,hy,hu⟩:=qe hk h0 l (j - k) u h
      obtain ⟨m,rfl⟩:∃ m,j=m+k:=⟨j - k,by omega⟩
      rw [Nat.add_sub_cancel] at hy hu
      rw [Nat.add_div_right _ h0,Nat.add_mod_right]
      exact ⟨y,by simpa using hy,hu⟩
theorem qc {α:Type} {cells:α→List Value} {k:Nat} (hk:∀ a,(cells a).length=k) (l:List α):(l.flatMap cells).length=l.length*k:=by
  induction l with
  | nil=>simp
  | cons x l ih=>rw [List.flatMap_cons,List.length_append,ih,hk,List.length_cons,Nat.add_mul];omega
section
variable {H:Type} {enc:TypeId×Value→H} {P:Program} {w:World} {base:Nat} {held:Bool}
theorem q33k {t e:TypeId} {fuel:Nat} {A:Option Addr} {n c:Nat} {x:DataW H×List MemPlace} (ht:P.underlying t=some (.slice e))
    (h:DataW.trod enc P w base (fun _=>true) held fuel t [Value.slice A n c]=some x):A=none→c=0:=by
  rcases open_slice ht h with ⟨hcs,_⟩ | ⟨a,len,cap,m,q,D,Pl,hcs,_⟩
  · simp only [List.cons.injEq, and_true] at hcs
    injection hcs with h1 h2 h3
    intro _;exact h3
  · simp only [List.cons.injEq, and_true] at hcs
    injection hcs with h1 h2 h3
    subst h1;intro h;cases h
theorem q33l {α:Type} (cells:α→List Value) (ok:α→Prop) {t e:TypeId} {k fuel:Nat} {A:Option Addr} {n c:Nat} {x:DataW H×List MemPlace}
    (ht:P.underlying t=some (.slice e)) (hC:P.cellsOf e=k) (h0:0<k) (hk:∀ a,(cells a).length=k)
    (hR:∀ (m:Nat) (l:List Value) (y:DataW H×List MemPlace),DataW.trod enc P w base (fun _=>true) held m e l=some y→l.length=k→∃ a,l=cells a∧ok a)
    (h:DataW.trod enc P w base (fun _=>true) held fuel t [Value.slice A n c]=some x) :
    ∃ l:List α,l.length=n∧Sl w k A l.length c (l.flatMap cells)∧(∀ a∈l,ok a)∧(A=none→c=0)∧c≤maxLen:=by
  rcases open_slice ht h with ⟨hcs,_⟩ | ⟨a,len,cap,m,q,D,Pl,hcs,_,hl,hmx,hm,_,hi⟩
  · simp only [List.cons.injEq, and_true] at hcs
    injection hcs with h1 h2 h3
    subst h1 h2 h3
    exact ⟨[],rfl,Sl.nil_ _ _ _ _,(fun _ h=>by cases h),(fun _=>rfl),Nat.zero_le _⟩
  · simp only [List.cons.injEq, and_true] at hcs
    injection hcs with h1 h2 h3
    subst h1 h2 h3
    simp only [if_true] at hm
    subst hm
    obtain ⟨l,hll,hp⟩:=q33j (α:=α) (p:=fun i v=>(∀ j u,(cells v)[j]?=some u→w.cell? (a.add (i*k+j))=some u)∧ok v) n (fun i hin=>by
      obtain ⟨cs',hc,ht'⟩:=hi i (by omega)
      rw [hC] at hc
      obtain ⟨_,hcl,hat⟩:=World.cells?_some hc
      obtain ⟨v,rfl,hv⟩:=hR _ _ _ ht' hcl
      refine ⟨v,fun j u hu=>?_,hv⟩
      have hj:j<k:=by rw [← hk v];exact (List.getElem?_eq_some_iff.1 hu).1
      rw [← Go.Deep.add_add,hat j hj,hu])
    refine ⟨l,hll,⟨by omega,by rw [qc hk,hll],fun hn=>?_⟩,fun v hv=>?_,(fun h=>by cases h),hmx⟩
    · obtain ⟨v0, hv0⟩ : ∃ v, l[0]? = some v := ⟨_, List.getElem?_eq_getElem (by omega)⟩
      obtain ⟨u0,hu0⟩:∃ u,(cells v0)[0]?=some u:=⟨_,List.getElem?_eq_getElem (by rw [hk];exact h0)⟩
      have hc0:=(hp 0 v0 hv0).1 0 u0 hu0
      obtain ⟨b,o,spot⟩:=a
      have hspot:spot=none:=by simpa [Addr.add] using World.cell?_spot hc0
      subst hspot
      refine ⟨b,o,rfl,?_,fun j u hu=>?_⟩
      · have hb := World.block_lt_of_cell? w _ hc0
        simpa [Addr.add] using hb
      · obtain ⟨v, hv, huv⟩ := qe hk h0 l j u hu
        have h1:=(hp _ v hv).1 _ u huv
        have e0:j / k*k+j % k=j:=by rw [Nat.mul_comm];exact Nat.div_add_mod j k
        rw [e0] at h1
        have e1:(⟨b,o,none⟩:Addr).add j=⟨b,o+j,none⟩:=by
          unfold Addr.add;split
          · rename_i h0;rw [h0];rfl
          · rfl
        rw [e1] at h1;exact h1
    · obtain ⟨i, hi'⟩ := List.getElem?_of_mem hv
      exact (hp i v hi').2
end
end Go

namespace Go.Proofs.Ytoakhncbmpdacaa
open Go.ChangeShapes Go.WideShapes Go.ChangeAt Go.RowKit Go.Pel Go.Deep
theorem q33m {α:Type} (l:List α) (h:l.length=1):∃ a,l=[a]:=by
  match l,h with
  | [a],_=>exact ⟨a,rfl⟩
theorem q33n {α:Type} (l:List α) (h:l.length=2):∃ a b,l=[a,b]:=by
  match l,h with
  | [a,b],_=>exact ⟨a,b,rfl⟩
theorem q33o {α:Type} (l:List α) (h:l.length=3):∃ a b c,l=[a,b,c]:=by
  match l,h with
  | [a,b,c],_=>exact ⟨a,b,c,rfl⟩
section
variable {H:Type} {enc:TypeId×Value→H} {w:World} {base:Nat} {spare:Nat→Bool} {held:Bool}
theorem q33p:Try.prog.cellsOf 3=1:=by kernel_rfl
theorem q33q:Try.prog.cellsOf 2=1:=by kernel_rfl
theorem q33r:Try.prog.cellsOf 75=3:=by kernel_rfl
theorem q33s:Try.prog.cellsOf 24=1:=by kernel_rfl
theorem q33t:Try.prog.cellsOf 22=1:=by kernel_rfl
theorem q33u {fuel:Nat} {l:List Value} {x:DataW H×List MemPlace} (h:DataW.trod enc Try.prog w base spare held fuel 75 l=some x) (hl:l.length=3) :
    ∃ p:Pt,l=[.int .i64 p.id,.int .i64 p.a,.int .i64 p.b]∧p.Fits:=by
  obtain ⟨c0,c1,c2,rfl⟩:=q33o l hl
  obtain ⟨m4,y4,h4⟩:=q33b Try.underlying75 h (i:=0) rfl rfl rfl q33p
  obtain ⟨m5,y5,h5⟩:=q33b Try.underlying75 h (i:=1) rfl rfl rfl q33q
  obtain ⟨m6,y6,h6⟩:=q33b Try.underlying75 h (i:=2) rfl rfl rfl q33q
  obtain ⟨i,e4,w4⟩:=q33c Try.underlying3 h4
  obtain ⟨a,e5,w5⟩:=q33c Try.underlying2 h5
  obtain ⟨b,e6,w6⟩:=q33c Try.underlying2 h6
  simp at e4 e5 e6
  subst e4 e5 e6
  exact ⟨⟨i,a,b⟩,rfl,⟨q33d w4,q33d w5,q33d w6⟩⟩
theorem q33v (fuel:Nat) (l:List Value) (x:DataW H×List MemPlace) (h:DataW.trod enc Try.prog w base spare held fuel 75 l=some x) (hl:l.length=3):∃ p:Pt,l=p.cells∧p.Fits:=q33u h hl
theorem q33w {fuel:Nat} {l:List Value} {x:DataW H×List MemPlace} (h:DataW.trod enc Try.prog w base (fun _=>true) held fuel 24 l=some x) (hl:l.length=1) :
    ∃ (A:Option Addr) (c:Nat) (m:List Pt),l=[.slice A m.length c]∧Sl w 3 A m.length c (vp m)∧(A=none→c=0)∧∀ p∈m,p.Fits:=by
  obtain ⟨c0,rfl⟩:=q33m l hl
  obtain ⟨m0,y0,h0⟩:=q33b Try.underlying24 h (i:=0) rfl rfl rfl q33t
  have h0':DataW.trod enc Try.prog w base (fun _=>true) held m0 22 [c0]=some y0:=by simpa using h0
  obtain ⟨A,n,c,rfl⟩:∃ A n c,c0=Value.slice A n c:=by
    rcases open_slice Try.underlying22 h0' with ⟨hcs,_⟩ | ⟨a,len,cap,m,q,D,Pl,hcs,_⟩
    · simp only [List.cons.injEq,and_true] at hcs;exact ⟨_,_,_,hcs⟩
    · simp only [List.cons.injEq,and_true] at hcs;exact ⟨_,_,_,hcs⟩
  have hn:=q33k Try.underlying22 h0'
  obtain ⟨pts,rfl,hs,hok,_,_⟩:=q33l Pt.cells Pt.Fits Try.underlying22 q33r (by decide) (fun _=>rfl) q33v h0'
  exact ⟨A,c,pts,rfl,hs,hn,hok⟩
theorem q33x:Try.prog.cellsOf 26=2:=by kernel_rfl
theorem q33y {fuel:Nat} {l:List Value} {x:DataW H×List MemPlace} (h:DataW.trod enc Try.prog w base spare held fuel 26 l=some x) (hl:l.length=2) :
    ∃ n d:Int,l=[.int .i64 n,.int .i64 d]∧(-9223372036854775808≤n∧n≤9223372036854775807)∧(-9223372036854775808≤d∧d≤9223372036854775807):=by
  obtain ⟨c0,c1,rfl⟩:=q33n l hl
  obtain ⟨m4,y4,h4⟩:=q33b Try.underlying26 h (i:=0) rfl rfl rfl q33q
  obtain ⟨m5,y5,h5⟩:=q33b Try.underlying26 h (i:=1) rfl rfl rfl q33q
  obtain ⟨n,e4,w4⟩:=q33c Try.underlying2 h4
  obtain ⟨d,e5,w5⟩:=q33c Try.underlying2 h5
  simp at e4 e5
  subst e4 e5
  exact ⟨n,d,rfl,q33d w4,q33d w5⟩
end
end Go.Proofs.Ytoakhncbmpdacaa
