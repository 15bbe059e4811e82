/- Walks of the references; the orders agree; examples. -/
import Derived.Test.YtoakhncbmpdacaaGm
set_option linter.unusedSimpArgs false
set_option linter.unusedVariables false
namespace Go.Proofs.Ytoakhncbmpdacaa
open Go Go.Tx Go.Pel
inductive Rg (N:List N3):Int→Nat→Nat→Prop
  | leaf (a b:Nat):b≤a→Rg N (-1) a b
  | node (k a b:Nat) (x:N3):a≤k→k<b→N[k]?=some x→Rg N x.2.1 a k→Rg N x.2.2.1 (k+1) b→Rg N (k:Int) a b
theorem Gr.rg {P:List N3} {n d:Int} {N:List N3} {i:Int} {a b:Nat} (h:Gr P n d N i a b):Rg N i a b:=by
  induction h with
  | leaf a b h=>exact .leaf a b h
  | node k a b x h1 h2 h3 h4 _ _ ih1 ih2=>exact .node k a b x h1 h2 h3 ih1 ih2
theorem Rg.links {N:List N3} {i:Int} {a b:Nat} (h:Rg N i a b):((i=-1∧b≤a)∨((a:Int)≤i∧i<b))∧∀ k,a≤k→k<b→(lfN N k=-1∨((a:Int)≤lfN N k∧lfN N k<k))∧(rtN N k=-1∨((k:Int)<rtN N k∧rtN N k<b)):=by
  induction h with
  | leaf a b h=>exact ⟨.inl ⟨rfl,h⟩,fun k h1 h2=>by omega⟩
  | node k a b x h1 h2 h3 _ _ ih1 ih2 =>
    obtain ⟨a1,a2⟩:=ih1
    obtain ⟨b1,b2⟩:=ih2
    refine ⟨.inr ⟨by omega,by omega⟩,fun m m1 m2=>?_⟩
    obtain ⟨_,e2,e3⟩:=q37y h3
    rcases Nat.lt_trichotomy m k with h5 | h5 | h5
    · have:=a2 m m1 h5;omega
    · subst h5;rw [e2,e3];omega
    · have:=b2 m (by omega) m2;omega
theorem Rg.sub {N:List N3} {i:Int} {a b:Nat} (h:Rg N i a b):∀ k,a≤k→k<b→(∃ c,a≤c∧c≤k∧Rg N (lfN N k) c k)∧∃ e,e≤b∧k+1≤e∧Rg N (rtN N k) (k+1) e:=by
  induction h with
  | leaf a b h=>intro k h1 h2;omega
  | node k a b x h1 h2 h3 g1 g2 ih1 ih2 =>
    intro m m1 m2
    obtain ⟨_,e2,e3⟩:=q37y h3
    rcases Nat.lt_trichotomy m k with h5 | h5 | h5
    · obtain ⟨⟨c, c1, c2, c3⟩, e, e1, e2, e3⟩ := ih1 m m1 h5
      exact ⟨⟨c,c1,c2,c3⟩,e,by omega,e2,e3⟩
    · subst h5;rw [e2,e3];exact ⟨⟨a,Nat.le_refl _,h1,g1⟩,b,Nat.le_refl _,by omega,g2⟩
    · obtain ⟨⟨c, c1, c2, c3⟩, e, e1, e2, e3⟩ := ih2 m (by omega) m2
      exact ⟨⟨c,by omega,c2,c3⟩,e,e1,e2,e3⟩
theorem q3qs {N:List N3} (hl:∀ x∈N,-1≤x.2.1∧-1≤x.2.2.1) {i:Int} {l:List Nat} (h:Tr N i l):-1≤i→∀ a m,l=List.range' a m→Rg N i a (a+m):=by
  induction h with
  | leaf i hi =>
    intro hb a m he
    have:m=0:=by have:=congrArg List.length he;rw [List.length_range'] at this;exact this.symm
    subst this
    rw [show i=-1 by omega]
    exact .leaf _ _ (Nat.le_refl _)
  | node k x s t hx _ _ ih1 ih2 =>
    intro hb a m he
    have hlen:=congrArg List.length he
    rw [List.length_range',List.length_append,List.length_cons] at hlen
    have hcut:List.range' a m=List.range' a s.length++(a+s.length) :: List.range' (a+s.length+1) t.length:=by
      rw [← hlen,← List.range'_append_1,List.range'_succ]
    rw [hcut] at he
    obtain ⟨e1,e2⟩:=List.append_inj he (by rw [List.length_range'])
    injection e2 with e2 e3
    subst e2
    obtain ⟨l1,l2⟩:=hl x (List.mem_of_getElem? hx)
    have g1:=ih1 l1 a s.length e1
    have g2:=ih2 l2 (a+s.length+1) t.length e3
    rw [show a+s.length+1+t.length=a+m by omega] at g2
    exact .node _ a (a+m) x (by omega) (by omega) hx g1 g2
def ascF (N:List N3) (i m:Nat):Bool:=(List.range' i m).all fun j=>decide (idN N (j - 1)<idN N j)
def ascB (N:List N3):Bool:=ascF N 1 (N.length - 1)
theorem q3qt {N:List N3}:ascB N=true ↔ ∀ i j,i<j→j<N.length→idN N i<idN N j:=by
  unfold ascB ascF
  rw [List.all_eq_true]
  constructor
  · intro h
    have step:∀ i,i+1<N.length→idN N i<idN N (i+1):=fun i hi=>by
      have:=h (i+1) (List.mem_range'_1.2 (by omega))
      rw [decide_eq_true_eq] at this
      exact this
    have key:∀ i m,i+m+1<N.length→idN N i<idN N (i+m+1):=by
      intro i m
      induction m with
      | zero=>exact fun hm=>step i hm
      | succ m ih =>
        intro hm
        have h1:=ih (by omega)
        have h2:=step (i+m+1) (by omega)
        rw [show i+(m+1)+1=i+m+1+1 by omega];omega
    intro i j hij hj
    have:=key i (j - i - 1) (by omega)
    rw [show i+(j - i - 1)+1=j by omega] at this
    exact this
  · intro h j hj
    have:=List.mem_range'_1.1 hj
    rw [decide_eq_true_eq]
    exact h (j - 1) j (by omega) (by omega)
theorem q3qw {r:Int} {N:List N3} {l:List Nat} (hv:VT r N l) (ha:ascB N=true):l=List.range N.length∧Rg N r 0 N.length:=by
  have hln:=hv.ln
  have hpw:l.Pairwise (· < ·):=by
    have:=hv.incL
    unfold incL at this
    rw [List.pairwise_iff_getElem] at this ⊢
    intro i j hi hj hij
    have h1:=this i j hi hj hij
    have h2:=hv.lt _ (List.getElem_mem hi)
    refine Nat.lt_of_not_le fun hle=>?_
    rcases Nat.lt_or_eq_of_le hle with h3 | h3
    · have:=q3qt.1 ha _ _ h3 h2;omega
    · rw [h3] at h1;omega
  rw [List.pairwise_iff_getElem] at hpw
  have key:∀ i m (h:i+m<l.length),l[i]'(by omega)+m≤l[i+m]:=by
    intro i m
    induction m with
    | zero=>exact fun h=>Nat.le_refl _
    | succ m ih =>
      intro h
      have h1:=ih (by omega)
      have h2:=hpw (i+m) (i+(m+1)) (by omega) h (by omega)
      omega
  have he:l=List.range N.length:=by
    refine List.ext_getElem (by rw [List.length_range];exact hln) fun t h1 h2=>?_
    rw [List.getElem_range]
    have k1:=key 0 t (by omega)
    have k2:=key t (l.length - 1 - t) (by omega)
    have k3:=hv.lt _ (List.getElem_mem (show t+(l.length - 1 - t)<l.length by omega))
    simp only [Nat.zero_add] at k1
    omega
  refine ⟨he,?_⟩
  have hnd:∀ x∈N,-1≤x.2.1∧-1≤x.2.2.1:=fun x hx=>by
    have:=q36q.1 (List.all_eq_true.1 hv.all x hx)
    exact ⟨this.1,this.2.1⟩
  have hrt:-1≤r:=by have:=hv.rt;simp only [not_or] at this;omega
  have:=q3qs hnd hv.tr hrt 0 N.length (by rw [he,List.range_eq_range'])
  rw [Nat.zero_add] at this
  exact this
def insV (N:List N3) (fr tt:Nat):Nat→Int→Int
  | 0,i=>i
  | f+1,i=>if i<0 then i else if i<fr then insV N fr tt f (rtN N i.toNat) else if (tt:Int)≤i then insV N fr tt f (lfN N i.toNat) else i
def ins (N:List N3) (fr tt:Nat) (i:Int):Int:=insV N fr tt (N.length+1) i
def sh (fr:Nat) (v:Int):Int:=if v<0 then -1 else v - fr
def q3qx (N:List N3) (fr tt:Nat):List N3:=(List.range' fr (tt - fr)).map fun k=>(idN N k,sh fr (ins N fr tt (lfN N k)),sh fr (ins N fr tt (rtN N k)),())
theorem q3qy (N:List N3) (fr tt f:Nat) {i:Int} (h:i<0):insV N fr tt f i=i:=by
  cases f with
  | zero=>rfl
  | succ f=>rw [insV,if_pos h]
theorem q3qz {N:List N3} {k:Nat} {x:N3} (h:N[k]?=some x) (fr tt f:Nat):insV N fr tt (f+1) (k:Int)=if k<fr then insV N fr tt f x.2.2.1 else if tt≤k then insV N fr tt f x.2.1 else (k:Int):=by
  obtain ⟨_,h2,h3⟩:=q37y h
  rw [insV,if_neg (by omega),show ((k:Int)).toNat=k from rfl,h2,h3]
  by_cases c:k<fr
  · rw [if_pos c,if_pos (by omega)]
  · rw [if_neg c, if_neg (by omega)]
    by_cases c2:tt≤k
    · rw [if_pos c2,if_pos (by omega)]
    · rw [if_neg c2,if_neg (by omega)]
theorem q3r0 {N:List N3} {fr tt:Nat} {i:Int} {a b:Nat} (h:Rg N i a b):∀ {f g:Nat},b - a<f→b - a<g→insV N fr tt f i=insV N fr tt g i:=by
  induction h with
  | leaf a b h=>intro f g _ _;rw [q3qy _ _ _ _ (by decide),q3qy _ _ _ _ (by decide)]
  | node k a b x h1 h2 h3 _ _ ih1 ih2 =>
    intro f g hf hg
    obtain ⟨f,rfl⟩:∃ f',f=f'+1:=⟨f - 1,by omega⟩
    obtain ⟨g,rfl⟩:∃ g',g=g'+1:=⟨g - 1,by omega⟩
    rw [q3qz h3,q3qz h3,ih1 (f:=f) (g:=g) (by omega) (by omega),ih2 (f:=f) (g:=g) (by omega) (by omega)]
theorem q3r1 (N:List N3) (fr tt:Nat) {i:Int} (h:i<0):ins N fr tt i=i:=q3qy _ _ _ _ h
theorem q3r2 {N:List N3} {k a b:Nat} {x:N3} (fr tt:Nat) (h1:a≤k) (h2:k<b) (hb:b≤N.length) (h3:N[k]?=some x) (g1:Rg N x.2.1 a k) (g2:Rg N x.2.2.1 (k+1) b):ins N fr tt (k:Int)=if k<fr then ins N fr tt x.2.2.1 else if tt≤k then ins N fr tt x.2.1 else (k:Int):=by
  unfold ins
  rw [q3qz h3,q3r0 g1 (f:=N.length) (g:=N.length+1) (by omega) (by omega),q3r0 g2 (f:=N.length) (g:=N.length+1) (by omega) (by omega)]
theorem q3r3 {N:List N3} {i:Int} {a b:Nat} (h:Rg N i a b) {fr tt:Nat} (h1:fr≤a) (h2:b≤tt) (hb:b≤N.length):ins N fr tt i=i:=by
  cases h with
  | leaf _ _ h=>exact q3r1 _ _ _ (by decide)
  | node k _ _ x k1 k2 k3 k4 k5=>rw [q3r2 fr tt k1 k2 hb k3 k4 k5,if_neg (by omega),if_neg (by omega)]
theorem q3r4 {N:List N3} {i:Int} {a b:Nat} (h:Rg N i a b) (hb:b≤N.length) (fr tt:Nat):ins N fr tt i=-1∨((fr:Int)≤ins N fr tt i∧ins N fr tt i<tt):=by
  induction h with
  | leaf a b h=>exact .inl (q3r1 _ _ _ (by decide))
  | node k a b x h1 h2 h3 g1 g2 ih1 ih2 =>
    rw [q3r2 fr tt h1 h2 hb h3 g1 g2]
    by_cases c:k<fr
    · rw [if_pos c];exact ih2 hb
    · rw [if_neg c]
      by_cases c2:tt≤k
      · rw [if_pos c2];exact ih1 (by omega)
      · rw [if_neg c2];omega
section
variable {r:Int} {N:List N3}
theorem q3ra {α:Type} {p:α→Bool} {l:List α} (h:∀ x∈l,p x=true):l.takeWhile p=l:=by
  induction l with
  | nil=>rfl
  | cons x xs ih=>rw [List.takeWhile_cons,if_pos (h x (List.mem_cons_self ..)),ih fun y hy=>h y (List.mem_cons_of_mem _ hy)]
def cutV (N:List N3) (id:Int):Nat:=(N.takeWhile fun x=>decide (x.1<id)).length
theorem q3rb {id:Int} {k:Nat} (hk:k≤N.length) (h1:∀ j,j<k→idN N j<id) (h2:k<N.length→¬ idN N k<id):cutV N id=k:=by
  unfold cutV
  have hd:N=N.take k++N.drop k:=(List.take_append_drop k N).symm
  have hlk:(N.take k).length=k:=by rw [List.length_take];omega
  have ht:(N.take k).takeWhile (fun x=>decide (x.1<id))=N.take k:=by
    refine q3ra fun x hx=>?_
    obtain ⟨j,hj⟩:=List.mem_iff_getElem?.1 hx
    have hjk:j<k:=by have:=(List.getElem?_eq_some_iff.1 hj).1;omega
    rw [List.getElem?_take_of_lt hjk] at hj
    have:=h1 j hjk
    rw [(q37y hj).1] at this
    exact decide_eq_true this
  have hdr:(N.drop k).takeWhile (fun x=>decide (x.1<id))=[]:=by
    by_cases c:k<N.length
    · rw [List.drop_eq_getElem_cons c]
      have:=h2 c
      rw [(q37y (List.getElem?_eq_getElem c)).1] at this
      rw [List.takeWhile_cons,if_neg (by rw [decide_eq_true_eq];exact this)]
    · rw [List.drop_eq_nil_iff.2 (by omega)];rfl
  rw [hd,List.takeWhile_append,ht,if_pos rfl,List.length_append,hdr,hlk];rfl
def q3rc (r:Int) (N:List N3) (id:Int):Int×List N3×Int×List N3×Int :=
  if chkT r N≠0 then (0,[],0,[],chkT r N) else if ascB N=false then (0,[],0,[],32) else
    (sh 0 (ins N 0 (cutV N id) r),q3qx N 0 (cutV N id),sh (cutV N id) (ins N (cutV N id) N.length r),q3qx N (cutV N id) N.length,0)
end
end Go.Proofs.Ytoakhncbmpdacaa

namespace Go.Proofs.Ytoakhncbmpdacaa
open Go Go.Tx Go.Pel
theorem Rg.congr {N M:List N3} {i:Int} {a b:Nat} (h:Rg N i a b):(∀ j,a≤j→j<b→M[j]?=N[j]?)→Rg M i a b:=by
  induction h with
  | leaf a b h=>exact fun _=>.leaf a b h
  | node k a b x h1 h2 h3 _ _ ih1 ih2 =>
    exact fun hM=>.node k a b x h1 h2 (by rw [hM k h1 h2];exact h3) (ih1 fun j g1 g2=>hM j g1 (by omega)) (ih2 fun j g1 g2=>hM j (by omega) g2)
theorem q3rf {N:List N3} {k:Nat} (h:k<N.length):N[k]?=some (idN N k,lfN N k,rtN N k,()):=by
  unfold idN lfN rtN;rw [List.getElem?_eq_getElem h];rfl
theorem q3rg {L M:List N3} {k:Nat} (h:L[k]?=M[k]?):idN L k=idN M k∧lfN L k=lfN M k∧rtN L k=rtN M k:=by
  unfold idN lfN rtN;rw [h];exact ⟨rfl,rfl,rfl⟩
def KnA (P X:List N3):Prop:=∀ i,i<X.length→ps P X i<P.length∧(ptA P (ps P X i)).1=idN X i
def setR (X:List N3) (k:Nat) (v:Int):List N3:=X.set k (idN X k,lfN X k,v,())
def setL (X:List N3) (k:Nat) (v:Int):List N3:=X.set k (idN X k,v,rtN X k,())
def q3rh (P:List N3) (n dd:Int):Nat→List N3→Int→Int→Int×List N3
  | 0,_,_,_=>(0,[])
  | f + 1, X, i, k => if i < 0 then (k, X) else if k < 0 then (i, X) else
    if ldB P n dd (ps P X i.toNat) (ps P X k.toNat)=true then (i,setR (q3rh P n dd f X (rtN X i.toNat) k).2 i.toNat (q3rh P n dd f X (rtN X i.toNat) k).1)
    else (k,setL (q3rh P n dd f X i (lfN X k.toNat)).2 k.toNat (q3rh P n dd f X i (lfN X k.toNat)).1)
section
variable {P:List N3} {n dd:Int}
theorem q3ri {f:Nat} {X:List N3} {i k:Int} (h:i<0):q3rh P n dd (f+1) X i k=(k,X):=by rw [q3rh,if_pos h]
theorem q3rj {f:Nat} {X:List N3} {i k:Int} (h:¬ i<0) (g:k<0):q3rh P n dd (f+1) X i k=(i,X):=by rw [q3rh,if_neg h,if_pos g]
theorem q3rk {f:Nat} {X:List N3} {i k:Nat} {x:N3} (hx:X[i]?=some x) (h:ldB P n dd (ps P X i) (ps P X k)=true):q3rh P n dd (f+1) X (i:Int) (k:Int)=((i:Int),setR (q3rh P n dd f X x.2.2.1 k).2 i (q3rh P n dd f X x.2.2.1 k).1):=by
  rw [q3rh,if_neg (by omega),if_neg (by omega),show ((i:Int)).toNat=i from rfl,show ((k:Int)).toNat=k from rfl,if_pos h,(q37y hx).2.2]
theorem q3rl {f:Nat} {X:List N3} {i k:Nat} {y:N3} (hy:X[k]?=some y) (h:ldB P n dd (ps P X i) (ps P X k)=false):q3rh P n dd (f+1) X (i:Int) (k:Int)=((k:Int),setL (q3rh P n dd f X i y.2.1).2 k (q3rh P n dd f X i y.2.1).1):=by
  rw [q3rh,if_neg (by omega),if_neg (by omega),show ((i:Int)).toNat=i from rfl,show ((k:Int)).toNat=k from rfl,if_neg (by rw [h];decide),(q37y hy).2.1]
theorem q2k (X:List N3) (k:Nat) (v:Int):(setR X k v).length=X.length:=List.length_set
theorem qj5 (X:List N3) (k:Nat) (v:Int):(setL X k v).length=X.length:=List.length_set
theorem q3rm {X:List N3} {k j:Nat} (h:j≠k) (v:Int):(setR X k v)[j]?=X[j]?:=List.getElem?_set_ne (Ne.symm h)
theorem q3rn {X:List N3} {k j:Nat} (h:j≠k) (v:Int):(setL X k v)[j]?=X[j]?:=List.getElem?_set_ne (Ne.symm h)
theorem q3ro {X:List N3} {k:Nat} (h:k<X.length) (v:Int):(setR X k v)[k]?=some (idN X k,lfN X k,v,()):=List.getElem?_set_self h
theorem q3rp {X:List N3} {k:Nat} (h:k<X.length) (v:Int):(setL X k v)[k]?=some (idN X k,v,rtN X k,()):=List.getElem?_set_self h
theorem q3rq {X:List N3} {k:Nat} {y:N3} (hy:y.1=idN X k) (j:Nat):idN (X.set k y) j=idN X j:=by
  by_cases c:j=k
  · subst c
    by_cases h:j<X.length
    · rw [(q37y (List.getElem?_set_self (a:=y) h)).1,hy]
    · rw [List.set_eq_of_length_le (by omega)]
  · exact (q3rg (List.getElem?_set_ne (Ne.symm c))).1
theorem q3rr (X:List N3) (k:Nat) (v:Int) (j:Nat):idN (setR X k v) j=idN X j:=q3rq (X:=X) (k:=k) (y:=(idN X k,lfN X k,v,())) rfl j
theorem q3rs (X:List N3) (k:Nat) (v:Int) (j:Nat):idN (setL X k v) j=idN X j:=q3rq (X:=X) (k:=k) (y:=(idN X k,v,rtN X k,())) rfl j
structure JoinS (X:List N3) (a b:Nat) (r:Int×List N3):Prop where
  ln:r.2.length=X.length
  id:∀ j,idN r.2 j=idN X j
  out:∀ j,j<a∨b≤j→r.2[j]?=X[j]?
theorem JoinS.mono {X:List N3} {a b a' b':Nat} {r:Int×List N3} (h:JoinS X a b r) (ha:a'≤a) (hb:b≤b'):JoinS X a' b' r:=⟨h.ln,h.id,fun j hj=>h.out j (by omega)⟩
theorem q3rt:∀ (f:Nat) {X:List N3} {i k:Int} {a m b:Nat},Rg X i a m→Rg X k m b→a≤m→m≤b→b - a<f→JoinS X a b (q3rh P n dd f X i k)
  | 0,_,_,_,_,_,_,_,_,_,_,h=>by omega
  | f + 1, X, i, k, a, m, b, h1, h2, ham, hmb, hf => by
    have ih:=fun {i k:Int} {a m b:Nat}=>q3rt f (X:=X) (i:=i) (k:=k) (a:=a) (m:=m) (b:=b)
    by_cases c1:i<0
    · rw [q3ri c1];exact ⟨rfl,fun _=>rfl,fun _ _=>rfl⟩
    by_cases c2:k<0
    · rw [q3rj c1 c2];exact ⟨rfl,fun _=>rfl,fun _ _=>rfl⟩
    cases h1 with
    | leaf=>exact absurd (by decide) c1
    | node i _ _ x i1 i2 i3 i4 i5 =>
      cases h2 with
      | leaf=>exact absurd (by decide) c2
      | node k _ _ y k1 k2 k3 k4 k5 =>
        cases hl:ldB P n dd (ps P X i) (ps P X k) with
        | true =>
          rw [q3rk i3 hl]
          have s:=ih i5 (.node k m b y k1 k2 k3 k4 k5) (by omega) hmb (by omega)
          exact ⟨by rw [q2k,s.ln],fun j=>(q3rr _ _ _ j).trans (s.id j),fun j hj=>by rw [q3rm (by omega)];exact s.out j (by omega)⟩
        | false =>
          rw [q3rl k3 hl]
          have s:=ih (.node i a m x i1 i2 i3 i4 i5) k4 ham k1 (by omega)
          exact ⟨by rw [qj5,s.ln],fun j=>(q3rs _ _ _ j).trans (s.id j),fun j hj=>by rw [q3rn (by omega)];exact s.out j (by omega)⟩
theorem q3rw {X:List N3}:∀ (f g:Nat) {i k:Int} {a m b:Nat},Rg X i a m→Rg X k m b→a≤m→m≤b→b - a<f→b - a<g→q3rh P n dd f X i k=q3rh P n dd g X i k
  | 0,_,_,_,_,_,_,_,_,_,_,h,_=>by omega
  | _,0,_,_,_,_,_,_,_,_,_,_,h=>by omega
  | f + 1, g + 1, i, k, a, m, b, h1, h2, ham, hmb, hf, hg => by
    have ih:=fun {i k:Int} {a m b:Nat}=>q3rw f g (i:=i) (k:=k) (a:=a) (m:=m) (b:=b) (X:=X)
    by_cases c1:i<0
    · rw [q3ri c1,q3ri c1]
    by_cases c2:k<0
    · rw [q3rj c1 c2,q3rj c1 c2]
    cases h1 with
    | leaf=>exact absurd (by decide) c1
    | node i _ _ x i1 i2 i3 i4 i5 =>
      cases h2 with
      | leaf=>exact absurd (by decide) c2
      | node k _ _ y k1 k2 k3 k4 k5 =>
        cases hl:ldB P n dd (ps P X i) (ps P X k) with
        | true=>rw [q3rk i3 hl,q3rk i3 hl,ih i5 (.node k m b y k1 k2 k3 k4 k5) (by omega) hmb (by omega) (by omega)]
        | false=>rw [q3rl k3 hl,q3rl k3 hl,ih (.node i a m x i1 i2 i3 i4 i5) k4 ham k1 (by omega) (by omega)]
end
def upL (n:Nat) (v:Int):Int:=if v<0 then v else v+n
def up (n:Nat) (x:N3):N3:=(x.1,upL n x.2.1,upL n x.2.2.1,())
def catV (A B:List N3):List N3:=A++B.map (up A.length)
theorem q3rx (A B:List N3):(catV A B).length=A.length+B.length:=by unfold catV;rw [List.length_append,List.length_map]
theorem q3ry {A B:List N3} {j:Nat} (h:j<A.length):(catV A B)[j]?=A[j]?:=List.getElem?_append_left h
theorem q3rz {A B:List N3} {j:Nat}:(catV A B)[A.length+j]?=(B[j]?).map (up A.length):=by
  unfold catV
  rw [List.getElem?_append_right (by omega),Nat.add_sub_cancel_left,List.getElem?_map]
theorem q3s0 {A B:List N3} {i:Int} {a b:Nat} (h:Rg A i a b) (hb:b≤A.length):Rg (catV A B) i a b:=h.congr fun j _ h2=>q3ry (by omega)
theorem q3s1 {A B:List N3} {i:Int} {a b:Nat} (h:Rg B i a b):Rg (catV A B) (upL A.length i) (A.length+a) (A.length+b):=by
  induction h with
  | leaf a b h=>exact .leaf _ _ (by omega)
  | node k a b x h1 h2 h3 _ _ ih1 ih2 =>
    have:upL A.length (k:Int)=((A.length+k:Nat):Int):=by unfold upL;rw [if_neg (by omega)];omega
    rw [this]
    exact .node (A.length+k) _ _ (up A.length x) (by omega) (by omega) (by rw [q3rz,h3];rfl) ih1 ih2
def q3s2 (P N:List N3):Bool:=N.all fun x=>hasB (ptsL P) x.1
def q3s3 (A B:List N3):Bool:=decide (0<A.length)&&(decide (0<B.length)&&decide (idN B 0≤idN A (A.length - 1)))
def q3s4 (ra:Int) (A:List N3) (rb:Int) (B P:List N3) (n dd:Int):Int×List N3×Int :=
  if chkT ra A≠0 then (0,[],chkT ra A) else if chkT rb B≠0 then (0,[],chkT rb B) else if (ascB A&&ascB B)=false then (0,[],32) else if qsv (ptsL P) n dd≠0 then (0,[],qsv (ptsL P) n dd) else
    if 64<A.length+B.length then (0,[],4) else if (q3s2 P A&&q3s2 P B)=false then (0,[],6) else if q3s3 A B=true then (0,[],32) else
      ((q3rh P n dd 1000 (catV A B) ra (upL A.length rb)).1,(q3rh P n dd 1000 (catV A B) ra (upL A.length rb)).2,0)
theorem q3s5 {P:List N3} {id:Int} (h:hasB (ptsL P) id=true):∃ t,t<P.length∧(ptA P t).1=id:=by
  obtain ⟨p,h1,h2⟩:=q3pj h
  obtain ⟨j,hj⟩:=List.mem_iff_getElem?.1 h1
  have hjl:j<P.length:=by
    have:=(List.getElem?_eq_some_iff.1 hj).1
    rw [show (ptsL P).length=P.length from List.length_map _] at this;exact this
  rw [q372 hjl] at hj
  injection hj with hj
  subst hj
  exact ⟨j,hjl,h2⟩
theorem q3s6 {P N:List N3} (hP:FOk P) (h:q3s2 P N=true):KnA P N:=by
  intro i hi
  unfold q3s2 at h
  rw [List.all_eq_true] at h
  have hx:=h _ (List.getElem_mem hi)
  obtain ⟨t,h1,h2⟩:=q3s5 hx
  have hid:idN N i=(ptA P t).1:=by rw [(q37y (List.getElem?_eq_getElem hi)).1,h2]
  have:=ps_k hP h1 hid
  rw [this]
  exact ⟨h1,hid.symm⟩
theorem q3s7 {P A B:List N3} (hA:KnA P A) (hB:KnA P B):KnA P (catV A B):=by
  intro i hi
  rw [q3rx] at hi
  by_cases c:i<A.length
  · have e := (q3rg (q3ry (B := B) c)).1
    have:=hA i c
    unfold ps at this ⊢
    rw [e];exact this
  · obtain ⟨j, rfl⟩ : ∃ j, i = A.length + j := ⟨i - A.length, by omega⟩
    have hj:j<B.length:=by omega
    have e:idN (catV A B) (A.length+j)=idN B j:=by
      have h1:=(q3rz (A:=A) (B:=B) (j:=j))
      rw [List.getElem?_eq_getElem hj] at h1
      rw [(q37y h1).1,(q37y (List.getElem?_eq_getElem hj)).1];rfl
    have:=hB j hj
    unfold ps at this ⊢
    rw [e];exact this
theorem q3sa {n:Nat} {v:Int} (hn:n≤64) (hv:v<1000) (h0:0≤v):IntKind.wrap .i64 (v+(n:Int))=upL n v:=by
  unfold upL
  rw [if_neg (by omega),IntWalk.i64_in _ (by omega)]
theorem q3sb {n:Nat} {v:Int} (h:v<0):upL n v=v:=by unfold upL;rw [if_pos h]
section
variable {P:List N3} {n dd:Int}
end
end Go.Proofs.Ytoakhncbmpdacaa

namespace Go.Proofs.Ytoakhncbmpdacaa
open Go Go.Tx Go.Pel
def kcmp (a b:Int):Int:=if a<b then -1 else if b<a then 1 else 0
theorem q3sh (d:Nat) (a b:Int):q291 d ((a,()),(b,()),())=some (kcmp a b):=by
  simp only [q291,q27p,q27t,q27x,q281,q285,q289,q28d,q28f,q28j,q28l,q28p,q28r,q28v,q28x,q28z,q27h,q277,q27b,q27f,Dt.eval,bne_self_eq_false,cond_false]
  unfold kcmp
  by_cases h1:a<b
  · simp only [h1,decide_true,cond_true,if_true]
  · by_cases h2 : b < a
    · simp only [h1,h2,gt_iff_lt,decide_true,decide_false,cond_true,cond_false,if_true,if_false]
    · simp only [h1,h2,gt_iff_lt,decide_false,cond_false,if_false]
theorem q3si (a b:Int):decide (kcmp a b<0)=decide (a<b):=by
  unfold kcmp
  by_cases h1:a<b
  · rw [if_pos h1,decide_eq_true h1];rfl
  · rw [if_neg h1,decide_eq_false h1];split<;>rfl
theorem q3sj {r:Int} {N:List N3} {l:List Nat} (hv:VT r N l) {i j:Nat} (hi:i<N.length) (hj:j<N.length) (hne:i≠j):idN N i≠idN N j:=by
  obtain ⟨s,hs⟩:=List.mem_iff_getElem?.1 (hv.mem hi)
  obtain ⟨t,ht⟩:=List.mem_iff_getElem?.1 (hv.mem hj)
  obtain ⟨hsl,rfl⟩:=List.getElem?_eq_some_iff.1 hs
  obtain ⟨htl,rfl⟩:=List.getElem?_eq_some_iff.1 ht
  have hp:=VT.incL hv
  unfold incL at hp
  rw [List.pairwise_iff_getElem] at hp
  rcases Nat.lt_trichotomy s t with h | h | h
  · have:=hp s t hsl htl h;omega
  · subst h;exact absurd rfl hne
  · have:=hp t s htl hsl h;omega
theorem q3sk (N:List N3) (m:Nat):ascF N 1 (m+1)=(ascF N 1 m&&decide (idN N m<idN N (m+1))):=by
  unfold ascF
  rw [List.range'_1_concat,List.all_append,List.all_cons,List.all_nil,Bool.and_true,Nat.add_comm 1 m,Nat.add_sub_cancel]
theorem q3sl (d:Nat) {N:List N3} (hlen:N.length≤64) (hne:∀ i j,i<N.length→j<N.length→i≠j→idN N i≠idN N j):∀ (f m:Nat),m<f→(m<N.length∨m=0)→iter (q2aj d) f (N,(m:Int))=some (ascF N 1 m)
  | 0,m,h,_=>by omega
  | f + 1, m, hf, hm => by
    have ih:=q3sl d hlen hne f
    rw [iter]
    revert ih
    generalize iter (q2aj d) f=self
    intro ih
    unfold q2aj
    cases m with
    | zero =>
      simp only [q2a5,q2ah,Dt.eval,show decide (((0:Nat):Int) > 0)=false from rfl,cond_false]
      rfl
    | succ m =>
      have hl:m+1<N.length:=by omega
      have hl0:m<N.length:=by omega
      obtain ⟨x,hx⟩:∃ x,N[m]?=some x:=⟨_,List.getElem?_eq_getElem hl0⟩
      obtain ⟨y,hy⟩:∃ y,N[m+1]?=some y:=⟨_,List.getElem?_eq_getElem hl⟩
      have hwd:=q37k (show m<1000000 by omega)
      have hpos:decide (((m+1:Nat):Int) > 0)=true:=decide_eq_true (by omega)
      have e1:q29l d ((y.1,y.2.1,y.2.2.1,()),(x.1,x.2.1,x.2.2.1,()),())=some (kcmp y.1 x.1):=by
        simp only [q29l,q299,q29f,q29j,q299,Dt.eval,q3sh]
      have hxy:=hne m (m+1) hl0 hl (by omega)
      rw [q3sk,(q37y hx).1,(q37y hy).1]
      rw [(q37y hx).1,(q37y hy).1] at hxy
      simp only [q2a5,q2a9,q29t,Dt.eval,hpos,cond_true,hwd,inbK hl,inbK hl0,eltK hx,eltK hy,e1,q3si]
      by_cases c:y.1<x.1
      · simp only [decide_eq_true c,cond_true,q2ad,Dt.eval,show decide (x.1<y.1)=false from decide_eq_false (by omega),Bool.and_false]
      · simp only [decide_eq_false c, cond_false, q2af, Dt.eval, hwd, show decide (x.1 < y.1) = true from decide_eq_true (by omega), Bool.and_true]
        exact ih m (by omega) (.inl hl0)
theorem q3sm (d:Nat) (hd:5000≤d) {r:Int} {N:List N3} {l:List Nat} (hv:VT r N l):q2b4 d ((r,N,()),())=some (ascB N):=by
  have hlen:=hv.len
  have hne:∀ i j,i<N.length→j<N.length→i≠j→idN N i≠idN N j:=fun i j hi hj h=>q3sj hv hi hj h
  have e:q2ak d ((N,()),(),())=some (ascB N):=by
    unfold ascB
    by_cases c:N.length=0
    · obtain ⟨d, rfl⟩ : ∃ d', d = d' + 1 := ⟨d - 1, by omega⟩
      have hw:IntKind.wrap .i64 (((0:Nat):Int) - 1)=-1:=by decide
      simp only [q2ak,q29x,q2a1,Dt.eval,c,hw]
      rw [iter]
      unfold q2aj
      simp only [q2a5,q2ah,Dt.eval,show decide ((-1:Int) > 0)=false from rfl,cond_false]
      rfl
    · obtain ⟨m, hm⟩ : ∃ m, N.length = m + 1 := ⟨N.length - 1, by omega⟩
      have hw:=q37k (show m<1000000 by omega)
      have:=q3sl d hlen hne d m (by omega) (.inl (by omega))
      simp only [q2ak,q29x,q2a1,Dt.eval,hm,hw,Nat.add_sub_cancel]
      exact this
  simp only [q2b4,q2as,q2ay,q2b2,q2as,Dt.eval,e]
theorem q3sn (d:Nat) {N:List N3} {id:Int} (ha:ascB N=true) (hlen:N.length≤64):∀ (f lo hi:Nat),hi - lo<f→lo≤hi→hi≤N.length→(∀ j,j<lo→idN N j<id)→(∀ j,hi≤j→j<N.length→¬ idN N j<id) →
    ∃ b:Bool,iter (q2fs d) f (N,id,(N.length:Int),(lo:Int),(hi:Int))=some ((cutV N id:Int),b)
  | 0,lo,hi,h,_,_,_,_=>by omega
  | f + 1, lo, hi, h, hle, hhi, h1, h2 => by
    rw [iter]
    have ih:=q3sn d (id:=id) ha hlen f
    revert ih
    generalize iter (q2fs d) f=self
    intro ih
    unfold q2fs
    have cmp1:∀ x:N3,q2em d ((x.1,x.2.1,x.2.2.1,()),(id,()),())=some (kcmp x.1 id):=fun x=>by
      simp only [q2em,q2ea,q2eg,q2ek,q2ea,Dt.eval,q3sh]
    by_cases hlt:lo<hi
    · have wm:IntKind.wrap .i64 (shrI .u64 (IntKind.wrap .u64 (IntKind.wrap .i64 ((lo:Int)+(hi:Int)))) 1)=(((lo+hi) / 2:Nat):Int):=by
        rw [show IntKind.wrap .i64 ((lo:Int)+(hi:Int))=(lo:Int)+(hi:Int) from IntWalk.i64_in _ (by omega),show IntKind.wrap .u64 ((lo:Int)+(hi:Int))=((lo+hi:Nat):Int) by rw [IntKind.wrap_u64];omega]
        have:shrI .u64 ((lo+hi:Nat):Int) 1=(((lo+hi) / 2:Nat):Int):=by
          unfold shrI
          rw [show (2:Int) ^ (min (1:Int).toNat IntKind.u64.bits)=2 from by decide,Int.fdiv_eq_ediv_of_nonneg _ (by omega)];omega
        rw [this];exact IntWalk.i64_in _ (by omega)
      obtain ⟨m,hm⟩:∃ m,(lo+hi) / 2=m:=⟨_,rfl⟩
      rw [hm] at wm
      have hml:m<N.length:=by omega
      obtain ⟨x,hx⟩:∃ x,N[m]?=some x:=⟨_,List.getElem?_eq_getElem hml⟩
      have hid:=(q37y hx).1
      have hwm:=q36l (show m<1000000 by omega)
      simp only [q2fa,q2fe,q2fi,q2eu,Dt.eval,decK hlt,cond_true,wm,inbK hml,eltK hx,cmp1,q3si]
      by_cases c:x.1<id
      · simp only [decide_eq_true c, cond_true, q2fk, Dt.eval, hwm]
        refine ih (m+1) hi (by omega) (by omega) (by omega) (fun j hj=>?_) h2
        rcases (by omega:j<m∨j=m) with hjm | rfl
        · have:=q3qt.1 ha j m hjm hml;omega
        · rw [hid];exact c
      · simp only [decide_eq_false c, cond_false, q2fm, Dt.eval]
        refine ih lo m (by omega) (by omega) (by omega) h1 (fun j hj hjl=>?_)
        rcases (by omega:m<j∨j=m) with hjm | rfl
        · have:=q3qt.1 ha m j hjm hjl;omega
        · rw [hid];exact c
    · obtain rfl : lo = hi := by omega
      have hcut:=q3rb hhi h1 (fun h=>h2 lo (Nat.le_refl _) h)
      by_cases hll:lo<N.length
      · obtain ⟨x, hx⟩ : ∃ x, N[lo]? = some x := ⟨_, List.getElem?_eq_getElem hll⟩
        refine ⟨kcmp x.1 id == 0,?_⟩
        simp only [q2fa,q2fq,q2eu,Dt.eval,decN hlt,cond_false,decK hll,cond_true,inbK hll,eltK hx,cmp1,hcut]
      · refine ⟨false, ?_⟩
        simp only [q2fa,q2fq,Dt.eval,decN hlt,cond_false,decN hll,hcut]
theorem q3so (d:Nat) (hd:5000≤d) {N:List N3} {id:Int} (ha:ascB N=true) (hlen:N.length≤64):∃ b:Bool,q2ft d ((N,()),(id,()),(),())=some ((cutV N id:Int),b):=by
  obtain ⟨b,h⟩:=q3sn d (id:=id) ha hlen d 0 N.length (by omega) (Nat.zero_le _) (Nat.le_refl _) (fun j hj=>by omega) (fun j h1 h2=>by omega)
  refine ⟨b,?_⟩
  simp only [q2ft,q2ey,q2f2,q2f6,Dt.eval]
  exact h
theorem q3sp (d:Nat) {N:List N3} (h:N.length≤100000):q2bb d ((N,()),())=some N:=by
  have hap:apB 0 N.length=true:=by unfold apB;rw [Nat.ble_eq];omega
  unfold q2bb
  simp only [hap,cond_true]
theorem q3sq (N:List N3) (id:Int):cutV N id≤N.length:=(List.takeWhile_prefix _).length_le
def shm (n:Nat) (v:Int):Int:=if v - n < -1 then -1 else v - n
def shx (n:Nat) (x:N3):N3:=(x.1,shm n x.2.1,shm n x.2.2.1,())
theorem q3sr (n:Nat) (v:Int):tmax (v - n) (-1)=shm n v:=rfl
theorem q3ss (d:Nat) {n:Nat} (hn:n≤64) {D:List N3} (hD:D.length≤64) (hb:∀ x∈D,(-1≤x.2.1∧x.2.1<1000)∧-1≤x.2.2.1∧x.2.2.1<1000) (r:Int) (N:List N3) (e1:Int) (E1:List N3) (e2:Int) (E2:List N3) (lr:Int) (L:List N3) (hr:Int):∀ (f i:Nat),D.length - i<f→i≤D.length →
    iter (q2kd d) f ((n:Int),(D.length:Int),(i:Int),r,N,e1,E1,e2,E2,lr,L,hr,(D.take i).map (shx n)++D.drop i)=iter (q2kb d) d (.inl ((n:Int),r,r,N,e1,E1,e2,E2,lr,L,hr,D.map (shx n)))
  | 0,i,h,_=>by omega
  | f + 1, i, hf, hi => by
    have ih:=q3ss d hn hD hb r N e1 E1 e2 E2 lr L hr f (i+1)
    rw [iter]
    revert ih
    generalize iter (q2kd d) f=self
    intro ih
    unfold q2kd
    by_cases hl:i<D.length
    · obtain ⟨x, hx⟩ : ∃ x, D[i]? = some x := ⟨_, List.getElem?_eq_getElem hl⟩
      have hbx:=hb x (List.mem_of_getElem? hx)
      have hw:=q36l (show i<1000000 by omega)
      have hdr:D.drop i=x :: D.drop (i+1):=by obtain ⟨h1,rfl⟩:=List.getElem?_eq_some_iff.1 hx;exact List.drop_eq_getElem_cons h1
      have htk:(D.take (i+1)).map (shx n)=(D.take i).map (shx n) ++ [shx n x]:=by rw [List.take_add_one,hx,List.map_append];rfl
      have hA:((D.take i).map (shx n)).length=i:=by rw [List.length_map,List.length_take];omega
      have hB:(D.drop (i+1)).length=D.length - (i+1):=List.length_drop
      have:=ih (by omega) (by omega)
      rw [htk,List.append_assoc] at this
      rw [hdr]
      generalize (D.take i).map (shx n)=A at hA this
      generalize D.drop (i+1)=B at hB this
      have hg:∀ y,(A++y :: B)[i]?=some y:=fun y=>by rw [List.getElem?_append_right (by omega),hA,Nat.sub_self];rfl
      have hset:∀ u v,(A++u :: B).set i v=A++v :: B:=fun u v=>by rw [List.set_append_right _ _ (by omega),hA,Nat.sub_self];rfl
      have hl1:∀ y:N3,(A++y :: B).length=D.length:=fun y=>by rw [List.length_append,List.length_cons];omega
      have w1:IntKind.wrap .i64 (x.2.1 - (n:Int))=x.2.1 - n:=IntWalk.i64_in _ (by omega)
      have w2:IntKind.wrap .i64 (x.2.2.1 - (n:Int))=x.2.2.1 - n:=IntWalk.i64_in _ (by omega)
      simp only [q2h5,q2h9,q2hd,q2hf,q2hh,Dt.eval,decK hl,cond_true,hl1,inbK hl,Int.toNat_natCast,q368 (hg _),w1,w2,q3sr,hset,hw]
      exact this
    · have hie : i = D.length := by omega
      subst hie
      simp only [q2h5,q2hl,q2hp,Dt.eval,decN hl,cond_false,List.take_length,List.drop_length,List.append_nil]
def stS (A B:Option Nat) (n i r:Int) (N:List N3) (e1:Int) (E1:List N3) (e2:Int) (E2:List N3) (lr:Int) (L:List N3) (hr:Int) (H:List N3):(Int×Int×Int×List N3×Int×List N3×Int×List N3×Int×List N3×Int×List N3) ⊕ (Int×Nat×Int×Int×List N3×Int×List N3×Int×List N3×Int×List N3×Int×List N3) ⊕ (Int×Nat×Int×Int×List N3×Int×List N3×Int×List N3×Int×List N3×Int×List N3) ⊕ (Int×Nat×Nat×Int×Int×List N3×Int×List N3×Int×List N3×Int×List N3×Int×List N3) :=
  match A,B with
  | none,none=>.inl (n,i,r,N,e1,E1,e2,E2,lr,L,hr,H)
  | some k,none=>.inr (.inl (n,k,i,r,N,e1,E1,e2,E2,lr,L,hr,H))
  | none,some m=>.inr (.inr (.inl (n,m,i,r,N,e1,E1,e2,E2,lr,L,hr,H)))
  | some k,some m=>.inr (.inr (.inr (n,k,m,i,r,N,e1,E1,e2,E2,lr,L,hr,H)))
def wrL (A:Option Nat) (L:List N3) (v:Int):List N3:=match A with | none=>L | some k=>L.set k ((elt ziii L k).1,(elt ziii L k).2.1,v,())
def wrH (B:Option Nat) (H:List N3) (v:Int):List N3:=match B with | none=>H | some k=>H.set k ((elt ziii H k).1,v,(elt ziii H k).2.2.1,())
def wr0 (A:Option Nat) (lr v:Int):Int:=match A with | none=>v | some _=>lr
section
variable (d f:Nat) (A B:Option Nat) {n:Nat} (r:Int) {N:List N3} (e1:Int) (E1:List N3) (e2:Int) (E2:List N3) (lr:Int) {L:List N3} (hr:Int) {H:List N3}
theorem q3st {k:Nat} {x:N3} (hx:N[k]?=some x) (hkn:k<n) (hL:L.length=n):iter (q2kb d) (f+1) (stS A B (n:Int) (k:Int) r N e1 E1 e2 E2 lr L hr H)=iter (q2kb d) f (stS (some k) B (n:Int) x.2.2.1 r N e1 E1 e2 E2 (wr0 A lr k) (wrL A L k) hr H):=by
  have hk:k<N.length:=(List.getElem?_eq_some_iff.1 hx).1
  have hkL:k<L.length:=by omega
  rw [iter]
  generalize iter (q2kb d) f=self
  unfold q2kb
  have c0:decide ((k:Int)≥0)=true:=decide_eq_true (by omega)
  have c1:decide ((k:Int)<(n:Int))=true:=decide_eq_true (by omega)
  cases A with
  | none =>
    cases B with
    | none =>
      simp only [stS,q2ih,q2ht,q2hx,q2i1,q2i3,Dt.eval,c0,c1,cond_true,inbK hkL,inbK hk,eltK hx,wr0,wrL,Int.toNat_natCast,q368 hx]
    | some m =>
      simp only [stS,q2jp,q2j7,q2jb,q2jd,q2jf,Dt.eval,c0,c1,cond_true,inbK hkL,inbK hk,eltK hx,wr0,wrL,Int.toNat_natCast,q368 hx]
  | some z =>
    cases B with
    | none =>
      simp only [stS,q2j4,q2ik,q2io,q2iq,q2is,Dt.eval,c0,c1,cond_true,inbK hkL,inbK hk,eltK hx,wr0,wrL,Int.toNat_natCast,q368 hx]
    | some m =>
      simp only [stS,q2ka,q2js,q2jw,q2jy,q2k0,Dt.eval,c0,c1,cond_true,inbK hkL,inbK hk,eltK hx,wr0,wrL,Int.toNat_natCast,q368 hx]
theorem q3su {k:Nat} {x:N3} (hx:N[k]?=some x) (hN:N.length≤64) (hnk:n≤k) (hH:k - n<H.length):iter (q2kb d) (f+1) (stS A B (n:Int) (k:Int) r N e1 E1 e2 E2 lr L hr H)=iter (q2kb d) f (stS A (some (k - n)) (n:Int) x.2.1 r N e1 E1 e2 E2 lr L (wr0 B hr ((k - n:Nat):Int)) (wrH B H ((k - n:Nat):Int))):=by
  have hk:k<N.length:=(List.getElem?_eq_some_iff.1 hx).1
  rw [iter]
  generalize iter (q2kb d) f=self
  unfold q2kb
  have c0:decide ((k:Int)≥0)=true:=decide_eq_true (by omega)
  have c1:decide ((k:Int)<(n:Int))=false:=decide_eq_false (by omega)
  have hw:IntKind.wrap .i64 ((k:Int) - (n:Int))=((k - n:Nat):Int):=by rw [IntWalk.i64_in _ (by omega)];omega
  cases A with
  | none =>
    cases B with
    | none =>
      simp only [stS,q2ih,q2ht,q2hx,q2i7,q2i9,Dt.eval,c0,c1,cond_true,cond_false,hw,inbK hH,inbK hk,eltK hx,wr0,wrH,Int.toNat_natCast,q368 hx]
    | some m =>
      simp only [stS,q2jp,q2j7,q2jb,q2jh,q2jj,Dt.eval,c0,c1,cond_true,cond_false,hw,inbK hH,inbK hk,eltK hx,wr0,wrH,Int.toNat_natCast,q368 hx]
  | some z =>
    cases B with
    | none =>
      simp only [stS,q2j4,q2ik,q2io,q2iw,q2iy,Dt.eval,c0,c1,cond_true,cond_false,hw,inbK hH,inbK hk,eltK hx,wr0,wrH,Int.toNat_natCast,q368 hx]
    | some m =>
      simp only [stS,q2ka,q2js,q2jw,q2k2,q2k4,Dt.eval,c0,c1,cond_true,cond_false,hw,inbK hH,inbK hk,eltK hx,wr0,wrH,Int.toNat_natCast,q368 hx]
theorem q3sv:iter (q2kb d) (f+1) (stS A B (n:Int) (-1) r N e1 E1 e2 E2 lr L hr H)=some (wr0 A lr (-1),wrL A L (-1),wr0 B hr (-1),wrH B H (-1),0):=by
  rw [iter]
  generalize iter (q2kb d) f=self
  unfold q2kb
  have c0:decide ((-1:Int)≥0)=false:=rfl
  cases A with
  | none =>
    cases B with
    | none=>simp only [stS,q2ih,q2ht,q2id,q2if,Dt.eval,c0,cond_false,wr0,wrL,wrH]
    | some m=>simp only [stS,q2jp,q2j7,q2jl,q2jn,Dt.eval,c0,cond_false,wr0,wrL,wrH]
  | some z =>
    cases B with
    | none=>simp only [stS,q2j4,q2ik,q2j0,q2j2,Dt.eval,c0,cond_false,wr0,wrL,wrH]
    | some m=>simp only [stS,q2ka,q2js,q2k6,q2k8,Dt.eval,c0,cond_false,wr0,wrL,wrH]
end
end Go.Proofs.Ytoakhncbmpdacaa

namespace Go.Proofs.Ytoakhncbmpdacaa
open Go Go.Tx Go.Pel
structure LowR (N:List N3) (n a:Nat) (A:Option Nat) (lr:Int) (L:List N3) (v lr':Int) (L':List N3):Prop where
  ln:L'.length=L.length
  rt:lr'=wr0 A lr v
  at_:∀ k,A=some k→k<n→L'[k]?=some (idN L k,lfN L k,v,())
  out:∀ k,k<a→A≠some k→L'[k]?=L[k]?
  inn:∀ k,a≤k→k<n→L'[k]?=some (idN N k,lfN N k,ins N 0 n (rtN N k),())
structure HighR (N:List N3) (n b:Nat) (B:Option Nat) (hr:Int) (H:List N3) (v hr':Int) (H':List N3):Prop where
  ln:H'.length=H.length
  rt:hr'=wr0 B hr v
  at_:∀ k,B=some k→k<H.length→H'[k]?=some (idN H k,v,rtN H k,())
  out:∀ k,b≤n+k→B≠some k→H'[k]?=H[k]?
  inn:∀ k,n≤n+k→n+k<b→H'[k]?=some (idN N (n+k),sh n (ins N n N.length (lfN N (n+k))),sh n (rtN N (n+k)),())
theorem q3sw (A:Option Nat) (L:List N3) (v:Int):(wrL A L v).length=L.length:=by unfold wrL;split<;>simp
theorem q3sx (A:Option Nat) (L:List N3) (v:Int):(wrH A L v).length=L.length:=by unfold wrH;split<;>simp
theorem q3sy {L:List N3} {k:Nat} (hk:k<L.length) (v:Int):(wrL (some k) L v)[k]?=some (idN L k,lfN L k,v,()):=by
  obtain ⟨y,hy⟩:∃ y,L[k]?=some y:=⟨_,List.getElem?_eq_getElem hk⟩
  obtain ⟨h1,h2,_⟩:=q37y hy
  unfold wrL
  simp only
  rw [List.getElem?_set_self hk,q368 hy,h1,h2]
theorem q3sz {L:List N3} {k:Nat} (hk:k<L.length) (v:Int):(wrH (some k) L v)[k]?=some (idN L k,v,rtN L k,()):=by
  obtain ⟨y,hy⟩:∃ y,L[k]?=some y:=⟨_,List.getElem?_eq_getElem hk⟩
  obtain ⟨h1,_,h3⟩:=q37y hy
  unfold wrH
  simp only
  rw [List.getElem?_set_self hk,q368 hy,h1,h3]
theorem q3t0 {A:Option Nat} {L:List N3} {k:Nat} (h:A≠some k) (v:Int):(wrL A L v)[k]?=L[k]?:=by
  unfold wrL
  split
  · rfl
  · rename_i j
    exact List.getElem?_set_ne (fun e=>h (by rw [e]))
theorem q3t1 {A:Option Nat} {L:List N3} {k:Nat} (h:A≠some k) (v:Int):(wrH A L v)[k]?=L[k]?:=by
  unfold wrH
  split
  · rfl
  · rename_i j
    exact List.getElem?_set_ne (fun e=>h (by rw [e]))
theorem q3t2 {L M:List N3} {k:Nat} (h:L[k]?=M[k]?):idN L k=idN M k∧lfN L k=lfN M k∧rtN L k=rtN M k:=by
  unfold idN lfN rtN;rw [h];exact ⟨rfl,rfl,rfl⟩
theorem q3t3 {N:List N3} {k:Nat} (h:k<N.length):N[k]?=some (idN N k,lfN N k,rtN N k,()):=by
  unfold idN lfN rtN;rw [List.getElem?_eq_getElem h];rfl
theorem q3t5 (d:Nat) (r:Int) {N:List N3} (hN:N.length≤64) {n:Nat} (e1:Int) (E1:List N3) (e2:Int) (E2:List N3) {i:Int} {a b:Nat} (h:Rg N i a b):a≤n→n≤b→b≤N.length→∀ (f:Nat) (A B:Option Nat) (lr:Int) (L:List N3) (hr:Int) (H:List N3),b - a<f→L.length=n→H.length=N.length - n →
    (∀ k,A=some k→k<a)→(∀ k,B=some k→b≤n+k)→(∀ k,a≤k→k<n→L[k]?=N[k]?)→(∀ k,n+k<b→H[k]?=some (idN N (n+k),shm n (lfN N (n+k)),shm n (rtN N (n+k)),())) →
    ∃ lr' L' hr' H',iter (q2kb d) f (stS A B (n:Int) i r N e1 E1 e2 E2 lr L hr H)=some (lr',L',hr',H',0)∧LowR N n a A lr L (ins N 0 n i) lr' L'∧HighR N n b B hr H (sh n (ins N n N.length i)) hr' H':=by
  induction h with
  | leaf a b h =>
    intro h1 h2 hb f A B lr L hr H hf hL hH hA hB hLN hHN
    obtain ⟨f,rfl⟩:∃ f',f=f'+1:=⟨f - 1,by omega⟩
    rw [q3r1 _ _ _ (by decide),q3r1 _ _ _ (by decide)]
    refine ⟨_,_,_,_,q3sv d f A B r e1 E1 e2 E2 lr hr,⟨q3sw _ _ _,rfl,fun k hk hkn=>?_,fun k _ hk=>q3t0 hk _,fun k k1 k2=>by omega⟩,⟨q3sx _ _ _,rfl,fun k hk hkn=>?_,fun k _ hk=>q3t1 hk _,fun k k1 k2=>by omega⟩⟩
    · subst hk;exact q3sy (by omega) _
    · subst hk;exact q3sz hkn _
  | node k a b x k1 k2 hx g1 g2 ih1 ih2 =>
    intro h1 h2 hb f A B lr L hr H hf hL hH hA hB hLN hHN
    obtain ⟨f,rfl⟩:∃ f',f=f'+1:=⟨f - 1,by omega⟩
    obtain ⟨x1,x2,x3⟩:=q37y hx
    rw [q3r2 0 n k1 k2 hb hx g1 g2,q3r2 n N.length k1 k2 hb hx g1 g2,if_neg (Nat.not_lt_zero _)]
    by_cases c:k<n
    · rw [if_neg (by omega), if_pos c, q3st d f A B r e1 E1 e2 E2 lr hr hx c hL]
      have hAk:A≠some k:=fun e=>by have:=hA k e;omega
      obtain ⟨lr',L',hr',H',q1,q2,q3⟩:=ih2 (by omega) h2 hb f (some k) B (wr0 A lr k) (wrL A L k) hr H (by omega) (by rw [q3sw];exact hL) hH (fun j hj=>by injection hj with hj;omega) hB (fun j j1 j2=>by
        have hAj:A≠some j:=fun e=>by have:=hA j e;omega
        rw [q3t0 hAj];exact hLN j (by omega) j2) hHN
      refine ⟨lr',L',hr',H',q1,⟨by rw [q2.ln,q3sw],q2.rt,fun j hj hjn=>?_,fun j j1 hj=>?_,fun j j1 j2=>?_⟩,⟨q3.ln,q3.rt,q3.at_,q3.out,q3.inn⟩⟩
      · have hjk := hA j hj
        rw [q2.out j (by omega) (fun e=>by injection e with e;omega)]
        subst hj
        exact q3sy (by omega) _
      · rw [q2.out j (by omega) (fun e=>by injection e with e;omega),q3t0 hj]
      · rcases Nat.lt_trichotomy j k with c2 | c2 | c2
        · have hAj : A ≠ some j := fun e => by have := hA j e; omega
          rw [q2.out j (by omega) (fun e=>by injection e with e;omega),q3t0 hAj,hLN j j1 j2,q3t3 (by omega)]
          obtain ⟨e,s1,s2,s3⟩:=(g1.sub j j1 c2).2
          rw [q3r3 s3 (Nat.zero_le _) (by omega) (by omega)]
        · subst c2
          rw [q2.at_ j rfl j2]
          obtain ⟨z1,z2,_⟩:=q3t2 (show (wrL A L j)[j]?=N[j]? by rw [q3t0 hAk];exact hLN j j1 j2)
          rw [z1,z2,x3]
        · exact q2.inn j (by omega) j2
    · have hHl : k - n < H.length := by omega
      rw [if_pos (by omega),if_neg c,if_neg (by omega),q3su d f A B r e1 E1 e2 E2 lr hr hx hN (by omega) hHl]
      have hBk:B≠some (k - n):=fun e=>by have:=hB _ e;omega
      obtain ⟨lr',L',hr',H',q1,q2,q3⟩:=ih1 h1 (by omega) (by omega) f A (some (k - n)) lr L (wr0 B hr ((k - n:Nat):Int)) (wrH B H ((k - n:Nat):Int)) (by omega) hL (by rw [q3sx];exact hH) hA (fun j hj=>by injection hj with hj;omega) (fun j j1 j2=>hLN j j1 j2) (fun j j1=>by
        have hBj:B≠some j:=fun e=>by have:=hB j e;omega
        rw [q3t1 hBj];exact hHN j (by omega))
      have hsk:sh n (k:Int)=((k - n:Nat):Int):=by unfold sh;rw [if_neg (by omega)];omega
      rw [hsk]
      refine ⟨lr',L',hr',H',q1,⟨q2.ln,q2.rt,q2.at_,q2.out,q2.inn⟩,⟨by rw [q3.ln,q3sx],q3.rt,fun j hj hjn=>?_,fun j j1 hj=>?_,fun j j1 j2=>?_⟩⟩
      · have hjk := hB j hj
        rw [q3.out j (by omega) (fun e=>by injection e with e;omega)]
        subst hj
        exact q3sz hjn _
      · rw [q3.out j (by omega) (fun e=>by injection e with e;omega),q3t1 hj]
      · rcases Nat.lt_trichotomy (n + j) k with c2 | c2 | c2
        · exact q3.inn j j1 c2
        · have hjk : j = k - n := by omega
          have h9:H[j]?=_:=hHN j (by omega)
          subst hjk
          rw [q3.at_ (k - n) rfl (by rw [q3sx];exact hHl)]
          obtain ⟨z1,_,z3⟩:=q3t2 (show (wrH B H ((k - n:Nat):Int))[k - n]?=H[k - n]? from q3t1 hBk _)
          obtain ⟨y1,_,y3⟩:=q37y h9
          rw [z1,z3,y1,y3,c2,x2]
          have:shm n (rtN N k)=sh n (rtN N k):=by
            rw [x3]
            rcases g2.links.1 with ⟨h,_⟩ | ⟨h,_⟩
            · rw [h];unfold shm sh;rw [if_pos (show (-1:Int)<0 by decide)];split<;>omega
            · unfold shm sh;rw [if_neg (by omega),if_neg (by omega)]
          rw [this]
        · have hBj : B ≠ some j := fun e => by have := hB j e; omega
          rw [q3.out j (by omega) (fun e=>by injection e with e;omega),q3t1 hBj,hHN j j2]
          have hl:=(g2.links.2 (n+j) (by omega) j2)
          obtain ⟨⟨e,s1,s2,s3⟩,_⟩:=g2.sub (n+j) (by omega) j2
          rw [q3r3 s3 (by omega) (by omega) (by omega)]
          have sh1:∀ v:Int,(v=-1∨(n:Int)≤v)→shm n v=sh n v:=fun v hv=>by
            rcases hv with rfl | hv
            · unfold shm sh;rw [if_pos (show (-1:Int)<0 by decide)];split<;>omega
            · unfold shm sh;rw [if_neg (by omega),if_neg (by omega)]
          rw [sh1 _ (by omega),sh1 _ (by omega)]
theorem q3t6 (N:List N3) (fr tt:Nat):(q3qx N fr tt).length=tt - fr:=by unfold q3qx;rw [List.length_map,List.length_range']
theorem q3t7 {N:List N3} {fr tt k:Nat} (h:k<tt - fr):(q3qx N fr tt)[k]?=some (idN N (fr+k),sh fr (ins N fr tt (lfN N (fr+k))),sh fr (ins N fr tt (rtN N (fr+k))),()):=by
  unfold q3qx
  rw [List.getElem?_map,List.getElem?_range' h,Nat.one_mul];rfl
theorem q3t8 {v:Int} (h:-1≤v):sh 0 v=v:=by
  unfold sh
  by_cases c:v<0
  · rw [if_pos c];omega
  · rw [if_neg c];omega
theorem q3t9 (d:Nat) (hd:5000≤d) (r:Int) (N:List N3) (id:Int):q2ke d ((r,N,()),(id,()),())=some (q3rc r N id):=by
  have e1:=q36w d hd r N
  unfold q3rc
  by_cases c:chkT r N=0
  · obtain ⟨l, hv⟩ := q37u c
    have hlen:=hv.len
    have e2:=q3sm d hd hv
    rw [if_neg (by rw [c];decide)]
    cases ha:ascB N with
    | false =>
      rw [ha] at e2
      rw [if_pos rfl]
      simp only [q2ke,q2g7,q2gb,q2gf,q2gn,q2gp,q2g1,Dt.eval,e1,c,bne_self_eq_false,cond_false,e2,Bool.not_false,cond_true]
    | true =>
      rw [ha] at e2
      rw [if_neg (by decide)]
      obtain ⟨b,e3⟩:=q3so d hd (id:=id) ha hlen
      have hcut:=q3sq N id
      generalize cutV N id=n at e3 hcut ⊢
      have hrg:=(q3qw hv ha).2
      have hc1:(decide ((0:Int)≤(n:Int))&&decide ((n:Int)≤(N.length:Int)))=true:=by
        rw [decide_eq_true (by omega),decide_eq_true (by omega)];rfl
      have hlt:(N.take n).length=n:=by rw [List.length_take];omega
      have hld:(N.drop n).length=N.length - n:=List.length_drop
      have e4:=q3sp d (N:=N.take n) (by omega)
      have e5:=q3sp d (N:=N.drop n) (by omega)
      have hbd:∀ x∈N.drop n,(-1≤x.2.1∧x.2.1<1000)∧-1≤x.2.2.1∧x.2.2.1<1000:=fun x hx=>by
        have:=q36q.1 (List.all_eq_true.1 hv.all x (List.mem_of_mem_drop hx))
        omega
      have e6:=q3ss d (n:=n) (by omega) (D:=N.drop n) (by omega) hbd r N 0 [] 0 [] (-1) (N.take n) (-1) d 0 (by omega) (Nat.zero_le _)
      rw [List.take_zero,List.map_nil,List.nil_append,List.drop_zero] at e6
      obtain ⟨lr',L',hr',H',q1,q2,q3⟩:=q3t5 d r hlen 0 [] 0 [] hrg (Nat.zero_le _) hcut (Nat.le_refl _) d none none (-1) (N.take n) (-1) ((N.drop n).map (shx n)) (by omega) hlt (by rw [List.length_map];exact hld) (fun k h=>by cases h) (fun k h=>by cases h)
        (fun k _ hk=>List.getElem?_take_of_lt hk) (fun k hk=>by
          rw [List.getElem?_map,List.getElem?_drop,q3t3 hk];rfl)
      have hlow:L'=q3qx N 0 n:=by
        refine List.ext_getElem? fun k=>?_
        by_cases hk:k<n
        · rw [q2.inn k (Nat.zero_le _) hk, q3t7 (by omega), Nat.zero_add]
          obtain ⟨⟨c',c1,c2,c3⟩,e',s1,s2,s3⟩:=hrg.sub k (Nat.zero_le _) (by omega)
          have hl:=(hrg.links.2 k (Nat.zero_le _) (by omega)).1
          rw [q3r3 c3 (Nat.zero_le _) (by omega) (by omega),q3t8 (by omega),q3t8 (by rcases q3r4 s3 (by omega) 0 n with h | h<;>omega)]
        · rw [List.getElem?_eq_none (by rw [q2.ln];omega),List.getElem?_eq_none (by rw [q3t6];omega)]
      have hhigh:H'=q3qx N n N.length:=by
        refine List.ext_getElem? fun k=>?_
        by_cases hk:n+k<N.length
        · rw [q3.inn k (by omega) hk, q3t7 (by omega)]
          obtain ⟨_,e',s1,s2,s3⟩:=hrg.sub (n+k) (Nat.zero_le _) hk
          rw [q3r3 s3 (by omega) (by omega) (by omega)]
        · rw [List.getElem?_eq_none (by rw [q3.ln,List.length_map];omega),List.getElem?_eq_none (by rw [q3t6];omega)]
      have r1:lr'=sh 0 (ins N 0 n r):=by
        rw [q2.rt,q3t8 (by rcases q3r4 hrg (Nat.le_refl _) 0 n with h | h<;>omega)];rfl
      have r2:hr'=sh n (ins N n N.length r):=q3.rt
      have q1':iter (q2kb d) d (.inl ((n:Int),r,r,N,0,[],0,[],-1,N.take n,-1,(N.drop n).map (shx n)))=some (lr',L',hr',H',0):=q1
      rw [q1',hlow,hhigh,r1,r2] at e6
      simp only [q2ke,q2g7,q2gb,q2gf,q2gn,q2gt,q2gx,q2h1,q2g1,Dt.eval,e1,c,bne_self_eq_false,cond_false,e2,Bool.not_true,e3,hc1,cond_true,Int.toNat_natCast,e4,e5]
      exact e6
  · rw [if_pos c]
    simp only [q2ke,q2g7,q2gb,q2gf,q2gj,q2g1,Dt.eval,e1,show (chkT r N != 0)=true from bne_iff_ne.2 c,cond_true]
end Go.Proofs.Ytoakhncbmpdacaa

namespace Go.Proofs.Ytoakhncbmpdacaa
open Go Go.Tx Go.Pel
set_option linter.unusedSectionVars false
section
variable {a b:List N3} (d:Nat) (ha:a.length≤1000) (hb:b.length≤1000)
theorem q3ta (d:Nat) {n:Nat} (hn:n≤10000):q2c9 d ((),((n:Int),()),())=some []:=by
  have c1:decide ((n:Int)<0)=false:=by rw [decide_eq_false_iff_not];omega
  have w1:IntKind.wrap .i64 ((n:Int) - IntKind.wrap .i64 ((0:Int) - 0))=(n:Int):=by
    rw [show IntKind.wrap .i64 ((0:Int) - 0)=0 from by decide,IntWalk.i64_in _ (by omega)];omega
  simp only [q2c9,q2bj,q2bn,q2br,q2bt,q2bx,q2c1,q2c5,q2c8,q2c7,Dt.eval,c1,cond_false,w1]
  by_cases h:n=0
  · subst h;rfl
  · have c2 : decide ((n : Int) > 0) = true := by rw [decide_eq_true_eq]; omega
    have c3:decide ((0:Int)<(n:Int))=true:=by rw [decide_eq_true_eq];omega
    have c4:decide ((n:Int)≤100000)=true:=by rw [decide_eq_true_eq];omega
    have c5:decide ((0:Int)≤((List.replicate (n:Int).toNat ziii).length:Int))=true:=by rw [decide_eq_true_eq];omega
    simp only [c2,c3,c4,c5,Bool.and_self,cond_true,Dt.eval,Int.toNat_zero,List.take_zero,show decide ((0:Int)≤0)=true from rfl]
include ha hb
theorem q3tb (self:(List qkt×Int×List qkt×Int×Int)→Option q2cd):q2e1 d self ([(a,()),(b,())],(0:Int),[(a,()),(b,())],(2:Int),(0:Int))=self ([(a,()),(b,())],(a.length:Int),[(a,()),(b,())],(2:Int),(1:Int)):=by
  have w1:IntKind.wrap .i64 ((0:Int)+(a.length:Int))=(a.length:Int):=by rw [IntWalk.i64_in _ (by omega)];omega
  have w3:IntKind.wrap .i64 ((0:Int)+1)=1:=by decide
  have c1:decide ((a.length:Int)<0)=false:=by rw [decide_eq_false_iff_not];omega
  unfold q2e1
  simp only [q2cx,q2d1,q2d3,q2d7,q2d9,q2db,Dt.eval,show decide ((0:Int)<2)=true from rfl,cond_true,show inB (0:Int) [(a,()),(b,())].length=true from rfl,show (elt qku [(a,()),(b,())] (0:Int).toNat).1=a from rfl,w1,c1,cond_false,w3]
theorem q3tc (self:(List qkt×Int×List qkt×Int×Int)→Option q2cd):q2e1 d self ([(a,()),(b,())],(a.length:Int),[(a,()),(b,())],(2:Int),(1:Int))=self ([(a,()),(b,())],((a.length+b.length:Nat):Int),[(a,()),(b,())],(2:Int),(2:Int)):=by
  have w2:IntKind.wrap .i64 ((a.length:Int)+(b.length:Int))=((a.length+b.length:Nat):Int):=by rw [IntWalk.i64_in _ (by omega)];omega
  have w4:IntKind.wrap .i64 ((1:Int)+1)=2:=by decide
  have c2:decide (((a.length+b.length:Nat):Int)<0)=false:=by rw [decide_eq_false_iff_not];omega
  unfold q2e1
  simp only [q2cx,q2d1,q2d3,q2d7,q2d9,q2db,Dt.eval,show decide ((1:Int)<2)=true from rfl,cond_true,show inB (1:Int) [(a,()),(b,())].length=true from rfl,show (elt qku [(a,()),(b,())] (1:Int).toNat).1=b from rfl,w2,c2,cond_false,w4]
theorem q3td (self:(List qkt×Int×List qkt×Int×Int)→Option q2cd):q2e1 d self ([(a,()),(b,())],((a.length+b.length:Nat):Int),[(a,()),(b,())],(2:Int),(2:Int))=iter (q2e0 d) d ([(a,()),(b,())],(2:Int),(0:Int),[]):=by
  have g:=q3ta d (n:=a.length+b.length) (by omega)
  unfold q2e1
  simp only [q2cx,q2de,q2di,q2ch,Dt.eval,show decide ((2:Int)<2)=false from rfl,cond_false,g]
  rfl
theorem q3te (self:(List qkt×Int×Int×List Diii)→Option q2cd):q2e0 d self ([(a,()),(b,())],(2:Int),(0:Int),[])=self ([(a,()),(b,())],(2:Int),(1:Int),a):=by
  have p1:apB ([]:List N3).length a.length=true:=by unfold apB;rw [Nat.ble_eq,List.length_nil];omega
  have w3:IntKind.wrap .i64 ((0:Int)+1)=1:=by decide
  unfold q2e0
  simp only [q2dm,q2dq,q2ds,q2du,Dt.eval,show decide ((0:Int)<2)=true from rfl,cond_true,show inB (0:Int) [(a,()),(b,())].length=true from rfl,show (elt qku [(a,()),(b,())] (0:Int).toNat).1=a from rfl,p1,w3,List.nil_append]
theorem q3tf (self:(List qkt×Int×Int×List Diii)→Option q2cd):q2e0 d self ([(a,()),(b,())],(2:Int),(1:Int),a)=self ([(a,()),(b,())],(2:Int),(2:Int),a++b):=by
  have p2:apB a.length b.length=true:=by unfold apB;rw [Nat.ble_eq];omega
  have w4:IntKind.wrap .i64 ((1:Int)+1)=2:=by decide
  unfold q2e0
  simp only [q2dm,q2dq,q2ds,q2du,Dt.eval,show decide ((1:Int)<2)=true from rfl,cond_true,show inB (1:Int) [(a,()),(b,())].length=true from rfl,show (elt qku [(a,()),(b,())] (1:Int).toNat).1=b from rfl,p2,w4]
omit ha hb in
theorem q3tg (self:(List qkt×Int×Int×List Diii)→Option q2cd):q2e0 d self ([(a,()),(b,())],(2:Int),(2:Int),a++b)=some (a++b):=by
  unfold q2e0
  simp only [q2dm,q2dy,Dt.eval,show decide ((2:Int)<2)=false from rfl,cond_false]
theorem q3th (hd:3≤d):q2e2 d ((([(a,()),(b,())]:List qkt),()),())=some (a++b):=by
  have hi:∀ {X R:Type} (body:(X→Option R)→X→Option R) (f:Nat) (x:X),iter body (f+1) x=body (iter body f) x:=fun body f x=>rfl
  have e1:iter (q2e1 d) d ([(a,()),(b,())],(0:Int),[(a,()),(b,())],(2:Int),(0:Int))=iter (q2e0 d) d ([(a,()),(b,())],(2:Int),(0:Int),[]):=by
    have c1:=q3tb d ha hb
    have c2:=q3tc d ha hb
    have c3:=q3td d ha hb
    generalize q2e1 d=L at c1 c2 c3 ⊢
    obtain ⟨e,he⟩:∃ e,d=e+3:=⟨d - 3,by omega⟩
    rw [show iter L d ([(a,()),(b,())],(0:Int),[(a,()),(b,())],(2:Int),(0:Int))=iter L (e+3) ([(a,()),(b,())],(0:Int),[(a,()),(b,())],(2:Int),(0:Int)) from by rw [← he],hi L (e+2),c1,hi L (e+1),c2,hi L e,c3]
  have e3:iter (q2e0 d) d ([(a,()),(b,())],(2:Int),(0:Int),[])=some (a++b):=by
    have c1:=q3te d ha hb
    have c2:=q3tf d ha hb
    have c3:=q3tg (a:=a) (b:=b) d
    generalize q2e0 d=L at c1 c2 c3 ⊢
    obtain ⟨e,he⟩:∃ e,d=e+3:=⟨d - 3,by omega⟩
    rw [show iter L d ([(a,()),(b,())],(2:Int),(0:Int),[])=iter L (e+3) ([(a,()),(b,())],(2:Int),(0:Int),[]) from by rw [← he],hi L (e+2),c1,hi L (e+1),c2,hi L e,c3]
  simp only [q2e2,q2ch,q2cl,q2cp,q2ct,Dt.eval]
  exact e1.trans e3
end
theorem q3ti (x:Int) (y:N3) (z:Int):∀ M:List (Int×N3),mhas Riii (mput Riii M x y) z=(z == x || mhas Riii M z)
  | [] => by
    simp only [mput,mhas]
    cases z == x<;>rfl
  | p :: M => by
    have ih:=q3ti x y z M
    simp only [mput]
    cases h:x == p.1 with
    | true =>
      have he:x=p.1:=eq_of_beq h
      simp only [cond_true,mhas,← he]
      cases z == x<;>rfl
    | false =>
      simp only [cond_false,mhas,ih]
      cases z == p.1<;>cases z == x<;>rfl
theorem q3tj (x:Int) (y:N3) (z:Int):∀ M:List (Int×N3),mget Riii (mput Riii M x y) z=bif z == x then y else mget Riii M z
  | []=>rfl
  | p :: M => by
    have ih:=q3tj x y z M
    simp only [mput]
    cases h:x == p.1 with
    | true =>
      have he:x=p.1:=eq_of_beq h
      simp only [cond_true,mget,← he]
      cases z == x<;>rfl
    | false =>
      simp only [cond_false,mget,ih]
      cases h1:z == p.1<;>cases h2:z == x<;>try rfl
      have e1:z=p.1:=eq_of_beq h1
      have e2:z=x:=eq_of_beq h2
      rw [← e1,← e2,beq_self_eq_true] at h;cases h
def MpI (P:List N3) (i:Nat) (M:List (Int×N3)):Prop:=(∀ z,mhas Riii M z=hasB (ptsL (P.take i)) z)∧∀ j,j<i→mget Riii M (ptA P j).1=ptA P j
theorem q3tk {P:List N3} (hP:FOk P) {i:Nat} (hi:i<P.length) {M:List (Int×N3)} (h:MpI P i M):MpI P (i+1) (mput Riii M (ptA P i).1 (ptA P i)):=by
  refine ⟨fun z=>?_,fun j hj=>?_⟩
  · rw [q3ti, h.1 z, List.take_add_one, q370 hi]
    unfold hasB ptsL
    rw [List.map_append,List.any_append,Bool.or_comm]
    congr 1
    show (z == (ptA P i).1)=(decide ((ptA P i).1=z) || false)
    rw [Bool.or_false]
    by_cases c:z=(ptA P i).1
    · rw [beq_iff_eq.2 c,decide_eq_true c.symm]
    · rw [beq_eq_false_iff_ne.2 c,decide_eq_false (Ne.symm c)]
  · rw [q3tj]
    by_cases c:j=i
    · subst c;rw [beq_self_eq_true];rfl
    · have : (ptA P j).1 ≠ (ptA P i).1 := fun e => c (id_k hP (by omega) hi e)
      rw [beq_eq_false_iff_ne.2 this]
      exact h.2 j (by omega)
theorem q3tl (d:Nat) {P:List N3} (hP:FOk P) (na ra:Int) (A:List N3) (rb:Int) (B:List N3) (n dd e:Int) (E:List N3) (R:Option q2ki) (hR:∀ self M,MpI P P.length M→q2qv d self (na,P,(P.length:Int),(P.length:Int),ra,A,rb,B,n,dd,e,E,M)=R) :
    ∀ (f i:Nat) (M:List (Int×N3)),P.length - i<f→i≤P.length→MpI P i M→iter (q2qv d) f (na,P,(P.length:Int),(i:Int),ra,A,rb,B,n,dd,e,E,M)=R
  | 0,i,M,h,_,_=>by omega
  | f + 1, i, M, hf, hi, hM => by
    have ih:=q3tl d hP na ra A rb B n dd e E R hR f (i+1)
    rw [iter]
    revert ih
    generalize iter (q2qv d) f=self
    intro ih
    by_cases hl:i<P.length
    · have hPl := hP.len
      have hw:=q36l (show i<1000000 by omega)
      unfold q2qv
      simp only [q2mg,q2mk,q2mm,q2mo,Dt.eval,decK hl,cond_true,inbK hl,eltK (q370 hl),hw]
      exact ih _ (by omega) (by omega) (q3tk hP hl hM)
    · have hie : i = P.length := by omega
      subst hie
      exact hR self M hM
section
variable {P A B:List N3} {n dd:Int}
theorem q3tm {j:Nat} (hj:j<A.length+B.length):∃ x,(A++B)[j]?=some x∧(catV A B)[j]?=some (if A.length≤j then up A.length x else x):=by
  by_cases c:j<A.length
  · exact ⟨A[j],by rw [List.getElem?_append_left c];exact List.getElem?_eq_getElem c,by rw [if_neg (by omega),q3ry c];exact List.getElem?_eq_getElem c⟩
  · obtain ⟨i, rfl⟩ : ∃ i, j = A.length + i := ⟨j - A.length, by omega⟩
    have hi:i<B.length:=by omega
    exact ⟨B[i],by rw [List.getElem?_append_right (by omega),Nat.add_sub_cancel_left];exact List.getElem?_eq_getElem hi,by rw [if_pos (by omega),q3rz,List.getElem?_eq_getElem hi];rfl⟩
theorem q3tn (d:Nat) (hl:A.length+B.length≤64) (hv:∀ x∈A++B,x.2.1<1000∧x.2.2.1<1000) {M:List (Int×N3)} (hM:MpI P P.length M) (ra rb e:Int) (E:List N3) (xr:Int) (R:Option q2ki) {K:Prop} (hR:K→∀ self,q2qu d self ((A.length:Int),((A.length+B.length:Nat):Int),((A.length+B.length:Nat):Int),ra,A,rb,B,n,dd,e,E,M,xr,catV A B)=R) :
    ∀ (f i:Nat),A.length+B.length - i<f→i≤A.length+B.length→(q3s2 P ((A++B).drop i)=true→K)→iter (q2qu d) f ((A.length:Int),((A.length+B.length:Nat):Int),(i:Int),ra,A,rb,B,n,dd,e,E,M,xr,(catV A B).take i++(A++B).drop i)=if q3s2 P ((A++B).drop i)=true then R else some (0,[],6)
  | 0,i,h,_,_=>by omega
  | f + 1, i, hf, hi, hKK => by
    have ih:=q3tn d hl hv hM ra rb e E xr R hR f (i+1)
    rw [iter]
    revert ih
    generalize iter (q2qu d) f=self
    intro ih
    by_cases hlt:i<A.length+B.length
    · obtain ⟨x, hx, hz⟩ := q3tm hlt
      have hw:=q36l (show i<1000000 by omega)
      have hvx:=hv x (List.mem_of_getElem? hx)
      have hdr:(A++B).drop i=x :: (A++B).drop (i+1):=by obtain ⟨h1,rfl⟩:=List.getElem?_eq_some_iff.1 hx;exact List.drop_eq_getElem_cons h1
      have htk:(catV A B).take (i+1)=(catV A B).take i ++ [if A.length≤i then up A.length x else x]:=by rw [List.take_add_one,hz];rfl
      have hk:q3s2 P ((A++B).drop i)=(hasB (ptsL P) x.1&&q3s2 P ((A++B).drop (i+1))):=by rw [hdr];rfl
      have hmh:mhas Riii M x.1=hasB (ptsL P) x.1:=by rw [hM.1,List.take_length]
      have hT:((catV A B).take i).length=i:=by rw [List.length_take,q3rx];omega
      have hD:((A++B).drop (i+1)).length=A.length+B.length - (i+1):=by rw [List.length_drop,List.length_append]
      rw [hk] at hKK
      have this0:=ih (by omega) (by omega)
      rw [htk,List.append_assoc] at this0
      rw [hk,hdr]
      generalize (catV A B).take i=T at hT this0
      generalize hG:(A++B).drop (i+1)=D at hD this0 hKK
      have hg:∀ y,(T++y :: D)[i]?=some y:=fun y=>by rw [List.getElem?_append_right (by omega),hT,Nat.sub_self];rfl
      have hset:∀ u v,(T++u :: D).set i v=T++v :: D:=fun u v=>by rw [List.set_append_right _ _ (by omega),hT,Nat.sub_self];rfl
      have hl1:∀ y:N3,(T++y :: D).length=A.length+B.length:=fun y=>by rw [List.length_append,List.length_cons];omega
      have hc:decide ((i:Int)<((A.length+B.length:Nat):Int))=true:=decide_eq_true (by omega)
      have hin:inB (i:Int) (A.length+B.length)=true:=inbK hlt
      unfold q2qu
      simp only [q2n0,q2n4,q2n8,q2nc,Dt.eval,hc,cond_true,hl1,hin,eltK (hg x),hmh]
      cases hb:hasB (ptsL P) x.1 with
      | false=>simp only [Bool.not_false,cond_true,q2ne,Dt.eval,Bool.false_and,if_neg (show ¬ (false=true) by decide)]
      | true =>
        rw [hb,Bool.true_and] at hKK
        have:=this0 hKK
        clear this0
        simp only [Bool.not_true,cond_false,Bool.true_and,q2ni,Dt.eval]
        by_cases c1:A.length≤i
        · have c1' : decide ((i : Int) ≥ (A.length : Int)) = true := decide_eq_true (by omega)
          rw [if_pos c1] at this
          simp only [c1',cond_true,Dt.eval]
          by_cases c2:x.2.1≥0
          · have w1 := q3sa (n := A.length) (v := x.2.1) (by omega) (by omega) (by omega)
            simp only [decide_eq_true c2,cond_true,q2nk,q2no,q2nv,Dt.eval,hl1,hin,Int.toNat_natCast,q368 (hg _),hset,c1',w1]
            by_cases c3:x.2.2.1≥0
            · have w2 := q3sa (n := A.length) (v := x.2.2.1) (by omega) (by omega) (by omega)
              simp only [decide_eq_true c3,cond_true,q2nq,q2ns,q2nu,Dt.eval,hl1,hin,Int.toNat_natCast,q368 (hg _),hset,w2,hw]
              exact this
            · have e2 := q3sb (n := A.length) (v := x.2.2.1) (by omega)
              simp only [decide_eq_false c3,cond_false,q2ns,q2nu,Dt.eval,hw]
              have hup:up A.length x=(x.1,upL A.length x.2.1,x.2.2.1,()):=by unfold up;rw [e2]
              rw [hup] at this
              exact this
          · have e1 := q3sb (n := A.length) (v := x.2.1) (by omega)
            simp only [decide_eq_false c2,cond_false,q2no,q2nv,Dt.eval,c1',cond_true]
            by_cases c3:x.2.2.1≥0
            · have w2 := q3sa (n := A.length) (v := x.2.2.1) (by omega) (by omega) (by omega)
              have hup:up A.length x=(x.1,x.2.1,upL A.length x.2.2.1,()):=by unfold up;rw [e1]
              rw [hup] at this
              simp only [decide_eq_true c3,cond_true,q2nq,q2ns,q2nu,Dt.eval,hl1,hin,Int.toNat_natCast,q368 (hg _),hset,w2,hw]
              exact this
            · have e2 := q3sb (n := A.length) (v := x.2.2.1) (by omega)
              have hup:up A.length x=x:=by unfold up;rw [e1,e2]
              rw [hup] at this
              simp only [decide_eq_false c3,cond_false,q2ns,q2nu,Dt.eval,hw]
              exact this
        · have c1' : decide ((i : Int) ≥ (A.length : Int)) = false := decide_eq_false (by omega)
          rw [if_neg c1] at this
          simp only [c1',cond_false,q2no,q2ns,q2nv,q2nu,Dt.eval,hw]
          exact this
    · have hie : i = A.length + B.length := by omega
      subst hie
      have h1:(A++B).drop (A.length+B.length)=[]:=List.drop_eq_nil_iff.2 (by rw [List.length_append];omega)
      have h2:(catV A B).take (A.length+B.length)=catV A B:=List.take_of_length_le (by rw [q3rx];omega)
      rw [h1] at hKK
      rw [h1,h2,List.append_nil,if_pos (show q3s2 P []=true from rfl)]
      exact hR (hKK rfl) self
def stM (E:Option (Nat×Bool)) (i k n dd e:Int) (E1:List N3) (M:List (Int×N3)) (xr:Int) (X:List N3):(Int×Int×Int×Int×Int×List N3×List (Int×N3)×Int×List N3) ⊕ (Int×Int×Nat×Int×Int×Int×List N3×List (Int×N3)×Int×List N3) ⊕ (Int×Int×Nat×Int×Int×Int×List N3×List (Int×N3)×Int×List N3) :=
  match E with
  | none=>.inl (i,k,n,dd,e,E1,M,xr,X)
  | some (p,true)=>.inr (.inl (i,k,p,n,dd,e,E1,M,xr,X))
  | some (p,false)=>.inr (.inr (i,k,p,n,dd,e,E1,M,xr,X))
def wrM (E:Option (Nat×Bool)) (X:List N3) (v:Int):List N3:=match E with | none=>X | some (p,true)=>setR X p v | some (p,false)=>setL X p v
def wrM0 (E:Option (Nat×Bool)) (xr v:Int):Int:=match E with | none=>v | some _=>xr
theorem q3to (E:Option (Nat×Bool)) (X:List N3) (v:Int):(wrM E X v).length=X.length:=by
  unfold wrM;split
  · rfl
  · exact q2k _ _ _
  · exact qj5 _ _ _
theorem q3tp (E:Option (Nat×Bool)) (X:List N3) (v:Int) (j:Nat):idN (wrM E X v) j=idN X j:=by
  unfold wrM;split
  · rfl
  · exact q3rr _ _ _ j
  · exact q3rs _ _ _ j
theorem q3tq {E:Option (Nat×Bool)} {j:Nat} (h:∀ p b,E=some (p,b)→j≠p) (X:List N3) (v:Int):(wrM E X v)[j]?=X[j]?:=by
  unfold wrM;split
  · rfl
  · exact q3rm (h _ _ rfl) _
  · exact q3rn (h _ _ rfl) _
theorem q3tr {E:Option (Nat×Bool)} {i:Nat} (h:∀ p b,E=some (p,b)→i≠p) (Y:List N3) (u v:Int):setR (wrM E Y u) i v=wrM E (setR Y i v) u:=by
  have e0:=q3rg (q3tq h Y u)
  cases E with
  | none=>rfl
  | some z =>
    obtain ⟨p,b⟩:=z
    have hne:=h p b rfl
    cases b with
    | true =>
      have e1:=q3rg (q3rm (X:=Y) (k:=i) (j:=p) (Ne.symm hne) v)
      have e2:idN (setR Y p u) i=idN Y i:=e0.1
      have e3:lfN (setR Y p u) i=lfN Y i:=e0.2.1
      show setR (setR Y p u) i v=setR (setR Y i v) p u
      rw [show setR (setR Y p u) i v=(setR Y p u).set i (idN (setR Y p u) i,lfN (setR Y p u) i,v,()) from rfl,show setR (setR Y i v) p u=(setR Y i v).set p (idN (setR Y i v) p,lfN (setR Y i v) p,u,()) from rfl,e2,e3,e1.1,e1.2.1]
      exact List.set_comm _ _ (Ne.symm hne)
    | false =>
      have e1:=q3rg (q3rm (X:=Y) (k:=i) (j:=p) (Ne.symm hne) v)
      have e2:idN (setL Y p u) i=idN Y i:=e0.1
      have e3:lfN (setL Y p u) i=lfN Y i:=e0.2.1
      show setR (setL Y p u) i v=setL (setR Y i v) p u
      rw [show setR (setL Y p u) i v=(setL Y p u).set i (idN (setL Y p u) i,lfN (setL Y p u) i,v,()) from rfl,show setL (setR Y i v) p u=(setR Y i v).set p (idN (setR Y i v) p,u,rtN (setR Y i v) p,()) from rfl,e2,e3,e1.1,e1.2.2]
      exact List.set_comm _ _ (Ne.symm hne)
theorem q3ts {E:Option (Nat×Bool)} {i:Nat} (h:∀ p b,E=some (p,b)→i≠p) (Y:List N3) (u v:Int):setL (wrM E Y u) i v=wrM E (setL Y i v) u:=by
  have e0:=q3rg (q3tq h Y u)
  cases E with
  | none=>rfl
  | some z =>
    obtain ⟨p,b⟩:=z
    have hne:=h p b rfl
    cases b with
    | true =>
      have e1:=q3rg (q3rn (X:=Y) (k:=i) (j:=p) (Ne.symm hne) v)
      have e2:idN (setR Y p u) i=idN Y i:=e0.1
      have e3:rtN (setR Y p u) i=rtN Y i:=e0.2.2
      show setL (setR Y p u) i v=setR (setL Y i v) p u
      rw [show setL (setR Y p u) i v=(setR Y p u).set i (idN (setR Y p u) i,v,rtN (setR Y p u) i,()) from rfl,show setR (setL Y i v) p u=(setL Y i v).set p (idN (setL Y i v) p,lfN (setL Y i v) p,u,()) from rfl,e2,e3,e1.1,e1.2.1]
      exact List.set_comm _ _ (Ne.symm hne)
    | false =>
      have e1:=q3rg (q3rn (X:=Y) (k:=i) (j:=p) (Ne.symm hne) v)
      have e2:idN (setL Y p u) i=idN Y i:=e0.1
      have e3:rtN (setL Y p u) i=rtN Y i:=e0.2.2
      show setL (setL Y p u) i v=setL (setL Y i v) p u
      rw [show setL (setL Y p u) i v=(setL Y p u).set i (idN (setL Y p u) i,v,rtN (setL Y p u) i,()) from rfl,show setL (setL Y i v) p u=(setL Y i v).set p (idN (setL Y i v) p,u,rtN (setL Y i v) p,()) from rfl,e2,e3,e1.1,e1.2.2]
      exact List.set_comm _ _ (Ne.symm hne)
theorem q3tt (E:Option (Nat×Bool)) (X:List N3) (v:Int) (j:Nat):ps P (wrM E X v) j=ps P X j:=by unfold ps;rw [q3tp]
theorem q3tu (E:Option (Nat×Bool)) (u:Int) {X:List N3}:∀ (f:Nat) {i k:Int} {a m b:Nat},Rg X i a m→Rg X k m b→a≤m→m≤b→b - a<f→(∀ p c,E=some (p,c)→p<a∨b≤p) →
    q3rh P n dd f (wrM E X u) i k=((q3rh P n dd f X i k).1,wrM E (q3rh P n dd f X i k).2 u)
  | 0,_,_,_,_,_,_,_,_,_,h,_=>by omega
  | f + 1, i, k, a, m, b, h1, h2, ham, hmb, hf, hE => by
    have ih:=fun {i k:Int} {a m b:Nat}=>q3tu E u (X:=X) f (i:=i) (k:=k) (a:=a) (m:=m) (b:=b)
    by_cases c1:i<0
    · rw [q3ri c1,q3ri c1]
    by_cases c2:k<0
    · rw [q3rj c1 c2,q3rj c1 c2]
    cases h1 with
    | leaf=>exact absurd (by decide) c1
    | node i _ _ x i1 i2 i3 i4 i5 =>
      cases h2 with
      | leaf=>exact absurd (by decide) c2
      | node k _ _ y k1 k2 k3 k4 k5 =>
        have hi:∀ p c,E=some (p,c)→i≠p:=fun p c h=>by have:=hE p c h;omega
        have hk:∀ p c,E=some (p,c)→k≠p:=fun p c h=>by have:=hE p c h;omega
        have i3':(wrM E X u)[i]?=some x:=by rw [q3tq hi];exact i3
        have k3':(wrM E X u)[k]?=some y:=by rw [q3tq hk];exact k3
        cases hl:ldB P n dd (ps P X i) (ps P X k) with
        | true =>
          rw [q3rk i3 hl,q3rk i3' (by rw [q3tt,q3tt];exact hl),ih i5 (.node k m b y k1 k2 k3 k4 k5) (by omega) hmb (by omega) (fun p c h=>by have:=hE p c h;omega),q3tr hi]
        | false =>
          rw [q3rl k3 hl,q3rl k3' (by rw [q3tt,q3tt];exact hl),ih (.node i a m x i1 i2 i3 i4 i5) k4 ham k1 (by omega) (fun p c h=>by have:=hE p c h;omega),q3ts hk]
theorem q3tv {X:List N3} (E:Option (Nat×Bool)) (u:Int) (h:KnA P X):KnA P (wrM E X u):=by
  intro j hj
  rw [q3to] at hj
  rw [q3tt,q3tp]
  exact h j hj
theorem q3tw {X:List N3} {p:Nat} (hp:p<X.length) (v:Int):X.set p ((elt ziii X p).1,(elt ziii X p).2.1,v,())=setR X p v:=by
  rw [q368 (q3rf hp)];rfl
theorem q3tx {X:List N3} {p:Nat} (hp:p<X.length) (v:Int):X.set p ((elt ziii X p).1,v,(elt ziii X p).2.2.1,())=setL X p v:=by
  rw [q368 (q3rf hp)];rfl
theorem q3ty (d f:Nat) (E:Option (Nat×Bool)) {i k:Int} (h:i<0∨k<0) (hik:-1≤i∧-1≤k) (n dd e:Int) (E1:List N3) (M:List (Int×N3)) (xr:Int) {X:List N3} (hE:∀ p c,E=some (p,c)→p<X.length):iter (q2qr d) (f+1) (stM E i k n dd e E1 M xr X)=some (wrM0 E xr (if i<0 then k else i),wrM E X (if i<0 then k else i),0):=by
  rw [iter]
  generalize iter (q2qr d) f=self
  unfold q2qr
  have hv:tmax i k=if i<0 then k else i:=by
    unfold tmax
    by_cases c:i<0
    · rw [if_pos c];split<;>omega
    · rw [if_neg c,if_neg (by omega)]
  have hc:decide (i≥0)=true→decide (k≥0)=false:=fun h1=>decide_eq_false (by have:=of_decide_eq_true h1;omega)
  have ha:∀ {β:Type} (x y:Dt β),(bif decide (i≥0) then x else y)=if 0≤i then x else y:=fun x y=>by by_cases c:0≤i<;>simp [c]
  cases E with
  | none =>
    by_cases c:i≥0
    · have c2 : decide (k ≥ 0) = false := decide_eq_false (by omega)
      simp only [stM,q2pc,q2og,q2p8,q2pa,Dt.eval,decide_eq_true c,c2,cond_true,cond_false,hv,wrM0,wrM]
    · simp only [stM,q2pc,q2og,q2p8,q2pa,Dt.eval,decide_eq_false c,cond_false,hv,wrM0,wrM]
  | some z =>
    obtain ⟨p,b⟩:=z
    have hp:=hE p b rfl
    cases b with
    | true =>
      by_cases c:i≥0
      · have c2 : decide (k ≥ 0) = false := decide_eq_false (by omega)
        simp only [stM,q2q1,q2pf,q2px,q2pz,Dt.eval,decide_eq_true c,c2,cond_true,cond_false,hv,wrM0,wrM,q3tw hp]
      · simp only [stM,q2q1,q2pf,q2px,q2pz,Dt.eval,decide_eq_false c,cond_false,hv,wrM0,wrM,q3tw hp]
    | false =>
      by_cases c:i≥0
      · have c2 : decide (k ≥ 0) = false := decide_eq_false (by omega)
        simp only [stM,q2qq,q2q4,q2qm,q2qo,Dt.eval,decide_eq_true c,c2,cond_true,cond_false,hv,wrM0,wrM,q3tx hp]
      · simp only [stM,q2qq,q2q4,q2qm,q2qo,Dt.eval,decide_eq_false c,cond_false,hv,wrM0,wrM,q3tx hp]
theorem q3tz (d f:Nat) (hP:FOk P) (ht:TOk n dd) (E:Option (Nat×Bool)) {i k:Nat} {x y:N3} (e:Int) (E1:List N3) {M:List (Int×N3)} (hM:MpI P P.length M) (xr:Int) {X:List N3} (hx:X[i]?=some x) (hy:X[k]?=some y) (hK:KnA P X) (hne:idN X i≠idN X k) (hE:∀ p c,E=some (p,c)→p<X.length∧p≠i∧p≠k) :
    iter (q2qr d) (f+1) (stM E (i:Int) (k:Int) n dd e E1 M xr X)=bif ldB P n dd (ps P X i) (ps P X k) then iter (q2qr d) f (stM (some (i,true)) x.2.2.1 (k:Int) n dd e E1 M (wrM0 E xr i) (wrM E X i)) else iter (q2qr d) f (stM (some (k,false)) (i:Int) y.2.1 n dd e E1 M (wrM0 E xr k) (wrM E X k)):=by
  have hi:i<X.length:=(List.getElem?_eq_some_iff.1 hx).1
  have hk:k<X.length:=(List.getElem?_eq_some_iff.1 hy).1
  obtain ⟨p1,q1⟩:=hK i hi
  obtain ⟨p2,q2⟩:=hK k hk
  have m1:mget Riii M x.1=ptA P (ps P X i):=by
    have:=hM.2 _ p1
    rw [q1,(q37y hx).1] at this;exact this
  have m2:mget Riii M y.1=ptA P (ps P X k):=by
    have:=hM.2 _ p2
    rw [q2,(q37y hy).1] at this;exact this
  have e1:=q37b d (hP.ok _ (q371 p1)) (hP.ok _ (q371 p2)) (by rw [q1,q2];exact hne) ht
  have c1:decide ((i:Int)≥0)=true:=decide_eq_true (by omega)
  have c2:decide ((k:Int)≥0)=true:=decide_eq_true (by omega)
  have g1:∀ v,(wrM E X v)[i]?=some x:=fun v=>by rw [q3tq fun p c h=>Ne.symm (hE p c h).2.1];exact hx
  have g2:∀ v,(wrM E X v)[k]?=some y:=fun v=>by rw [q3tq fun p c h=>Ne.symm (hE p c h).2.2];exact hy
  rw [show ldB P n dd (ps P X i) (ps P X k)=qlx (ofP (ptA P (ps P X i))) (ofP (ptA P (ps P X k))) n dd from rfl]
  rw [iter]
  generalize iter (q2qr d) f=self
  unfold q2qr
  cases E with
  | none =>
    simp only [stM,q2pc,q2og,q2ok,q2oo,q2km,Dt.eval,c1,c2,cond_true,inbK hi,inbK hk,eltK hx,q368 hx,eltK hy,q368 hy,m1,m2,e1]
    cases qlx (ofP (ptA P (ps P X i))) (ofP (ptA P (ps P X k))) n dd with
    | true=>simp only [cond_true,q2os,q2ow,Dt.eval,inbK hi,Int.toNat_natCast,q368 hx,wrM0,wrM]
    | false=>simp only [cond_false,cond_true,q2p0,q2p4,Dt.eval,inbK hk,Int.toNat_natCast,q368 hy,wrM0,wrM]
  | some z =>
    obtain ⟨p,b⟩:=z
    have hp:=(hE p b rfl).1
    cases b with
    | true =>
      simp only [wrM] at g1 g2
      simp only [stM,q2q1,q2pf,q2pj,q2pn,q2km,Dt.eval,c1,c2,cond_true,inbK hi,inbK hk,eltK hx,q368 hx,eltK hy,q368 hy,m1,m2,e1]
      cases qlx (ofP (ptA P (ps P X i))) (ofP (ptA P (ps P X k))) n dd with
      | true=>simp only [cond_true,q2pp,q2pr,Dt.eval,inbK hi,Int.toNat_natCast,q3tw hp,q368 (g1 _),wrM0,wrM]
      | false=>simp only [cond_false,cond_true,q2pt,q2pv,Dt.eval,inbK hk,Int.toNat_natCast,q3tw hp,q368 (g2 _),wrM0,wrM]
    | false =>
      simp only [wrM] at g1 g2
      simp only [stM,q2qq,q2q4,q2q8,q2qc,q2km,Dt.eval,c1,c2,cond_true,inbK hi,inbK hk,eltK hx,q368 hx,eltK hy,q368 hy,m1,m2,e1]
      cases qlx (ofP (ptA P (ps P X i))) (ofP (ptA P (ps P X k))) n dd with
      | true=>simp only [cond_true,q2qe,q2qg,Dt.eval,inbK hi,Int.toNat_natCast,q3tx hp,q368 (g1 _),wrM0,wrM]
      | false=>simp only [cond_false,cond_true,q2qi,q2qk,Dt.eval,inbK hk,Int.toNat_natCast,q3tx hp,q368 (g2 _),wrM0,wrM]
theorem q3u0 (d:Nat) (hP:FOk P) (ht:TOk n dd) (e:Int) (E1:List N3) {M:List (Int×N3)} (hM:MpI P P.length M):∀ (f:Nat) (E:Option (Nat×Bool)) {X:List N3} (xr:Int) {i k:Int} {a m b:Nat},KnA P X→(∀ s t,s<X.length→t<X.length→s≠t→idN X s≠idN X t)→Rg X i a m→Rg X k m b→a≤m→m≤b→b≤X.length→b - a<f→(∀ p c,E=some (p,c)→p<X.length∧(p<a∨b≤p)) →
    iter (q2qr d) f (stM E i k n dd e E1 M xr X)=some (wrM0 E xr (q3rh P n dd f X i k).1,wrM E (q3rh P n dd f X i k).2 (q3rh P n dd f X i k).1,0)
  | 0,_,_,_,_,_,_,_,_,_,_,_,_,_,_,_,h,_=>by omega
  | f + 1, E, X, xr, i, k, a, m, b, hK, hd, h1, h2, ham, hmb, hb, hf, hE => by
    have ih:=q3u0 d hP ht e E1 hM f
    have hi1:=h1.links.1
    have hk1:=h2.links.1
    by_cases c1:i<0
    · rw [q3ri c1,q3ty d f E (.inl c1) (by omega) n dd e E1 M xr (fun p c h=>(hE p c h).1),if_pos c1]
    by_cases c2:k<0
    · rw [q3rj c1 c2,q3ty d f E (.inr c2) (by omega) n dd e E1 M xr (fun p c h=>(hE p c h).1),if_neg c1]
    cases h1 with
    | leaf=>exact absurd (by decide) c1
    | node i _ _ x i1 i2 i3 i4 i5 =>
      cases h2 with
      | leaf=>exact absurd (by decide) c2
      | node k _ _ y k1 k2 k3 k4 k5 =>
        have hEi:∀ p c,E=some (p,c)→i≠p:=fun p c h=>by have:=(hE p c h).2;omega
        have hEk:∀ p c,E=some (p,c)→k≠p:=fun p c h=>by have:=(hE p c h).2;omega
        rw [q3tz d f hP ht E e E1 hM xr i3 k3 hK (hd i k (by omega) (by omega) (by omega)) (fun p c h=>⟨(hE p c h).1,Ne.symm (hEi p c h),Ne.symm (hEk p c h)⟩)]
        have hwr:∀ (u:Int) {j:Int} {a' b':Nat},a≤a'→b'≤b→Rg X j a' b'→Rg (wrM E X u) j a' b':=fun u j a' b' ha' hb' h=>h.congr fun t t1 t2=>q3tq (fun p c h=>by have:=(hE p c h).2;omega) X u
        have hdw:∀ u s t,s<(wrM E X u).length→t<(wrM E X u).length→s≠t→idN (wrM E X u) s≠idN (wrM E X u) t:=fun u s t hs ht'=>by rw [q3to] at hs ht';rw [q3tp,q3tp];exact hd s t hs ht'
        cases hl:ldB P n dd (ps P X i) (ps P X k) with
        | true =>
          have s:=q3tu (P:=P) (n:=n) (dd:=dd) E (i:Int) f i5 (.node k m b y k1 k2 k3 k4 k5) (by omega) hmb (by omega) (fun p c h=>by have:=(hE p c h).2;omega)
          rw [cond_true,ih (some (i,true)) (X:=wrM E X i) _ (q3tv E _ hK) (hdw _) (hwr _ (by omega) (by omega) i5) (hwr _ (by omega) (by omega) (.node k m b y k1 k2 k3 k4 k5)) (by omega) hmb (by rw [q3to];exact hb) (by omega) (fun p c h=>by injection h with h;injection h with h _;rw [q3to];omega),s,q3rk i3 hl]
          show some (wrM0 E xr (i:Int),setR (wrM E _ (i:Int)) i _,(0:Int))=_
          rw [q3tr hEi]
        | false =>
          have s:=q3tu (P:=P) (n:=n) (dd:=dd) E (k:Int) f (.node i a m x i1 i2 i3 i4 i5) k4 ham k1 (by omega) (fun p c h=>by have:=(hE p c h).2;omega)
          rw [cond_false,ih (some (k,false)) (X:=wrM E X k) _ (q3tv E _ hK) (hdw _) (hwr _ (by omega) (by omega) (.node i a m x i1 i2 i3 i4 i5)) (hwr _ (by omega) (by omega) k4) ham k1 (by rw [q3to];omega) (by omega) (fun p c h=>by injection h with h;injection h with h _;rw [q3to];omega),s,q3rl k3 hl]
          show some (wrM0 E xr (k:Int),setL (wrM E _ (k:Int)) k _,(0:Int))=_
          rw [q3ts hEk]
end
end Go.Proofs.Ytoakhncbmpdacaa

namespace Go.Proofs.Ytoakhncbmpdacaa
open Go Go.Tx Go.Pel
section
variable {P A B:List N3} {n dd:Int}
theorem q3u1 {j:Nat} (h:j<A.length):idN (catV A B) j=idN A j:=(q3rg (q3ry h)).1
theorem q3u2 {j:Nat} (h:j<B.length):idN (catV A B) (A.length+j)=idN B j:=by
  have h1:=(q3rz (A:=A) (B:=B) (j:=j))
  rw [List.getElem?_eq_getElem h] at h1
  rw [(q37y h1).1,(q37y (List.getElem?_eq_getElem h)).1];rfl
theorem q3u3 (ha:ascB A=true) (hb:ascB B=true) (hm:q3s3 A B=false):∀ s t,s<t→t<(catV A B).length→idN (catV A B) s<idN (catV A B) t:=by
  intro s t hst ht
  rw [q3rx] at ht
  have ha:=q3qt.1 ha
  have hb:=q3qt.1 hb
  by_cases c:t<A.length
  · rw [q3u1 (by omega),q3u1 c];exact ha s t hst c
  · obtain ⟨t, rfl⟩ : ∃ u, t = A.length + u := ⟨t - A.length, by omega⟩
    have htB:t<B.length:=by omega
    rw [q3u2 htB]
    by_cases c2:s<A.length
    · rw [q3u1 c2]
      unfold q3s3 at hm
      rw [decide_eq_true (show 0<A.length by omega),decide_eq_true (show 0<B.length by omega),Bool.true_and,Bool.true_and,decide_eq_false_iff_not] at hm
      have h1:idN A s≤idN A (A.length - 1):=by
        by_cases e:s=A.length - 1
        · rw [e];exact Int.le_refl _
        · have:=ha s (A.length - 1) (by omega) (by omega);omega
      have h2:idN B 0≤idN B t:=by
        by_cases e:t=0
        · rw [e];exact Int.le_refl _
        · have:=hb 0 t (by omega) htB;omega
      omega
    · obtain ⟨s, rfl⟩ : ∃ u, s = A.length + u := ⟨s - A.length, by omega⟩
      rw [q3u2 (by omega)]
      exact hb s t (by omega) htB
theorem q3u4 (d:Nat) (hd:5000≤d) (hP:FOk P) (ht:TOk n dd) {ra rb:Int} (hA:Rg A ra 0 A.length) (hB:Rg B rb 0 B.length) (ha:ascB A=true) (hb:ascB B=true) (hl:A.length+B.length≤64) (hK:KnA P (catV A B)) {M:List (Int×N3)} (hM:MpI P P.length M) (e:Int) (E:List N3) (self:(Int×Int×Int×Int×List N3×Int×List N3×Int×Int×Int×List N3×List (Int×N3)×Int×List N3)→Option q2ki) :
    q2qu d self ((A.length:Int),((A.length+B.length:Nat):Int),((A.length+B.length:Nat):Int),ra,A,rb,B,n,dd,e,E,M,0,catV A B)=if q3s3 A B=true then some (0,[],32) else some ((q3rh P n dd 1000 (catV A B) ra (upL A.length rb)).1,(q3rh P n dd 1000 (catV A B) ra (upL A.length rb)).2,0):=by
  have hcl:=q3rx A B
  have hc:decide (((A.length+B.length:Nat):Int)<((A.length+B.length:Nat):Int))=false:=decide_eq_false (by omega)
  have hrb:=hB.links.1
  have h1:=q3s0 (B:=B) hA (Nat.le_refl _)
  have h2:=q3s1 (A:=A) hB
  rw [Nat.add_zero] at h2
  have fin:q3s3 A B=false→q2qt d (ra,upL A.length rb,n,dd,e,E,M,0,catV A B)=some ((q3rh P n dd 1000 (catV A B) ra (upL A.length rb)).1,(q3rh P n dd 1000 (catV A B) ra (upL A.length rb)).2,0):=fun hm=>by
    have hasc:=q3u3 ha hb hm
    have:=q3u0 d hP ht e E hM d none (X:=catV A B) 0 hK (fun s t hs ht hne=>by
      rcases Nat.lt_or_gt_of_ne hne with h | h
      · have:=hasc s t h ht;omega
      · have:=hasc t s h hs;omega) h1 h2 (Nat.zero_le _) (by omega) (by omega) (by omega) (fun p c h=>by cases h)
    rw [q3rw d 1000 h1 h2 (Nat.zero_le _) (by omega) (by omega) (by omega)] at this
    exact this
  unfold q2qu
  simp only [q2n0,q2ny,Dt.eval,hc,cond_false]
  have rest:q3s3 A B=false→(bif decide (rb≥0) then q2qt d (ra,IntKind.wrap .i64 (rb+(A.length:Int)),n,dd,e,E,M,0,catV A B) else q2qt d (ra,rb,n,dd,e,E,M,0,catV A B))=some ((q3rh P n dd 1000 (catV A B) ra (upL A.length rb)).1,(q3rh P n dd 1000 (catV A B) ra (upL A.length rb)).2,0):=fun hm=>by
    by_cases c1:rb≥0
    · rw [decide_eq_true c1, cond_true, q3sa (n := A.length) (v := rb) (by omega) (by omega) (by omega)]
      exact fin hm
    · rw [decide_eq_false c1, cond_false]
      have:=fin hm
      rw [q3sb (v:=rb) (by omega)] at this ⊢
      exact this
  have mt:q3s3 A B=(decide (0<A.length)&&(decide (0<B.length)&&decide (idN B 0≤idN A (A.length - 1)))):=rfl
  by_cases d1:0<A.length
  · have d1' : decide ((A.length : Int) > 0) = true := decide_eq_true (by omega)
    by_cases d2:0<B.length
    · have d2' : decide ((A.length : Int) < ((catV A B).length : Int)) = true := decide_eq_true (by omega)
      obtain ⟨m,hm⟩:∃ m,A.length=m+1:=⟨A.length - 1,by omega⟩
      have hwd:IntKind.wrap .i64 ((A.length:Int) - 1)=(m:Int):=by rw [hm];exact q37k (by omega)
      obtain ⟨x,hx⟩:∃ x,(catV A B)[m]?=some x:=⟨_,List.getElem?_eq_getElem (by omega)⟩
      obtain ⟨y,hy⟩:∃ y,(catV A B)[A.length]?=some y:=⟨_,List.getElem?_eq_getElem (by omega)⟩
      have i1:inB (m:Int) (catV A B).length=true:=inbK (by omega)
      have i2:inB (A.length:Int) (catV A B).length=true:=inbK (by omega)
      have hxi:idN A (A.length - 1)=x.1:=by rw [← (q37y hx).1,q3u1 (by omega),hm,Nat.add_sub_cancel]
      have hyi:idN B 0=y.1:=by rw [← (q37y hy).1,← q3u2 (A:=A) d2];rfl
      rw [decide_eq_true d1,decide_eq_true d2,Bool.true_and,Bool.true_and,hxi,hyi] at mt
      simp only [d1',d2',hwd,i1,i2,cond_true,eltK hx,eltK hy,Dt.eval]
      by_cases d3:y.1≤x.1
      · rw [decide_eq_true d3] at mt
        rw [if_pos mt,show decide (x.1≥y.1)=true from decide_eq_true d3]
        simp only [cond_true,q2o0,Dt.eval]
      · rw [decide_eq_false d3] at mt
        rw [if_neg (by rw [mt];decide),show decide (x.1≥y.1)=false from decide_eq_false d3]
        simp only [cond_false,q2o4,q2o8,q2oc,Dt.eval]
        exact rest mt
    · have d2' : decide ((A.length : Int) < ((catV A B).length : Int)) = false := decide_eq_false (by omega)
      rw [decide_eq_false d2,Bool.false_and,Bool.and_false] at mt
      rw [if_neg (by rw [mt];decide)]
      simp only [d1',d2',cond_true,cond_false,Dt.eval,q2o4,q2o8,q2oc]
      exact rest mt
  · have d1' : decide ((A.length : Int) > 0) = false := decide_eq_false (by omega)
    rw [decide_eq_false d1,Bool.false_and] at mt
    rw [if_neg (by rw [mt];decide)]
    simp only [d1',cond_false,Dt.eval,q2o4,q2o8,q2oc]
    exact rest mt
end
theorem q3u5 (P A B:List N3):q3s2 P (A++B)=(q3s2 P A&&q3s2 P B):=by unfold q3s2;rw [List.all_append]
theorem q3u6 (P:List N3):MpI P 0 []:=⟨fun z=>rfl,fun j h=>by omega⟩
theorem q3u7 (d:Nat) (hd:5000≤d) (ra:Int) (A:List N3) (rb:Int) (B P:List N3) {n dd:Int} (hn:i64B n=true) (hdd:i64B dd=true):q2qw d ((ra,A,()),(rb,B,()),(P,()),(n,dd,()),())=some (q3s4 ra A rb B P n dd):=by
  have e1:=q36w d hd ra A
  have e2:=q36w d hd rb B
  unfold q3s4
  by_cases c1:chkT ra A=0
  · obtain ⟨la, hva⟩ := q37u c1
    rw [if_neg (by rw [c1];decide)]
    by_cases c2:chkT rb B=0
    · obtain ⟨lb, hvb⟩ := q37u c2
      have ha:=hva.len
      have hb:=hvb.len
      rw [if_neg (by rw [c2];decide)]
      have e3:=q3sm d hd hva
      have e4:=q3sm d hd hvb
      cases c3:ascB A with
      | false =>
        rw [c3] at e3
        rw [Bool.false_and,if_pos rfl]
        simp only [q2qw,q2ks,q2kw,q2l0,q2l8,q2lc,q2li,q2lk,q2km,Dt.eval,e1,c1,e2,c2,bne_self_eq_false,cond_false,e3,Bool.not_false,cond_true]
      | true =>
        rw [c3] at e3
        rw [Bool.true_and]
        cases c4:ascB B with
        | false =>
          rw [c4] at e4
          rw [if_pos rfl]
          simp only [q2qw,q2ks,q2kw,q2l0,q2l8,q2lc,q2li,q2lk,q2km,Dt.eval,e1,c1,e2,c2,bne_self_eq_false,cond_false,e3,Bool.not_true,e4,Bool.not_false,cond_true]
        | true =>
          rw [c4] at e4
          rw [if_neg (by decide)]
          have f1:qqg d ((P,()),())=some (qhk (ptsL P)):=qqh d _ rfl
          have f2:qog d ((n,dd,()),())=some (qeg n dd):=qoh d _ (by unfold qof;simp only [hn,hdd,Bool.and_self])
          have e5:q12z d ((P,()),(n,dd,()),())=some (qsv (ptsL P) n dd):=by
            unfold qsv
            simp only [q12z,q12d,q12j,q12n,q12r,q12v,q12x,Dt.eval,f1,f2]
            by_cases h:qhk (ptsL P)=0
            · simp only [h,show ((0:Int) != 0)=false from rfl,cond_false,if_neg (show ¬ (0:Int)≠0 from fun h=>h rfl)]
            · simp only [show (qhk (ptsL P) != 0)=true from bne_iff_ne.2 h,cond_true,if_pos h]
          by_cases c5:qsv (ptsL P) n dd=0
          · rw [if_neg (by rw [c5]; decide)]
            have hf:qhk (ptsL P)=0:=(q3p3 c5).1
            have hr:qeg n dd=0:=(q3p3 c5).2.1
            have hP:=q373 hf
            have hT:TOk n dd:=⟨hn,hdd,hr⟩
            have hPl:=hP.len
            have hw:IntKind.wrap .i64 ((A.length:Int)+(B.length:Int))=((A.length+B.length:Nat):Int):=by rw [IntWalk.i64_in _ (by omega)];omega
            by_cases c7:64<A.length+B.length
            · rw [if_pos c7]
              simp only [q2qw,q2ks,q2kw,q2l0,q2l8,q2lc,q2li,q2lo,q2ls,q2ly,q2m2,q2m4,q2km,Dt.eval,e1,c1,e2,c2,bne_self_eq_false,cond_false,e3,Bool.not_true,e4,e5,c5,hw,show decide (((A.length+B.length:Nat):Int) > 64)=true from decide_eq_true (by omega),cond_true]
            · rw [if_neg c7]
              have hw2:decide (((A.length+B.length:Nat):Int) > 64)=false:=decide_eq_false (by omega)
              have hcat:=q3th (a:=A) (b:=B) d (by omega) (by omega) (by omega)
              have hbd:∀ x∈A++B,x.2.1<1000∧x.2.2.1<1000:=fun x hx=>by
                rcases List.mem_append.1 hx with hx | hx
                · have:=q36q.1 (List.all_eq_true.1 hva.all x hx);omega
                · have:=q36q.1 (List.all_eq_true.1 hvb.all x hx);omega
              have hrgA:=(q3qw hva c3).2
              have hrgB:=(q3qw hvb c4).2
              have hla:(A++B).length=A.length+B.length:=List.length_append
              have e6:=q3tl d hP (A.length:Int) ra A rb B n dd 0 [] (if (q3s2 P A&&q3s2 P B)=false then some (0,[],6) else if q3s3 A B=true then some (0,[],32) else some ((q3rh P n dd 1000 (catV A B) ra (upL A.length rb)).1,(q3rh P n dd 1000 (catV A B) ra (upL A.length rb)).2,0)) (fun self M hM=>by
                have hc:decide (((P.length:Nat):Int)<((P.length:Nat):Int))=false:=decide_eq_false (by omega)
                unfold q2qv
                simp only [q2mg,q2ms,q2mw,q2km,Dt.eval,hc,cond_false,hcat,hla]
                cases hkn:(q3s2 P A&&q3s2 P B) with
                | false =>
                  rw [if_pos rfl]
                  have:=q3tn (P:=P) (A:=A) (B:=B) (n:=n) (dd:=dd) d (by omega) hbd hM ra rb 0 [] 0 none (K:=False) (fun h=>h.elim) d 0 (by omega) (Nat.zero_le _) (fun h=>by rw [List.drop_zero,q3u5,hkn] at h;cases h)
                  rw [List.take_zero,List.nil_append,List.drop_zero,q3u5,hkn,if_neg (by decide)] at this
                  exact this
                | true =>
                  rw [if_neg (by decide)]
                  rw [Bool.and_eq_true] at hkn
                  have hK:=q3s7 (q3s6 hP hkn.1) (q3s6 hP hkn.2)
                  have:=q3tn (P:=P) (A:=A) (B:=B) (n:=n) (dd:=dd) d (by omega) hbd hM ra rb 0 [] 0 _ (K:=True) (fun _ self'=>q3u4 d hd hP hT hrgA hrgB c3 c4 (by omega) hK hM 0 [] self') d 0 (by omega) (Nat.zero_le _) (fun _=>trivial)
                  rw [List.take_zero,List.nil_append,List.drop_zero,q3u5,hkn.1,hkn.2,if_pos (by rfl)] at this
                  exact this) d 0 [] (by omega) (Nat.zero_le _) (q3u6 P)
              simp only [q2qw,q2ks,q2kw,q2l0,q2l8,q2lc,q2li,q2lo,q2ls,q2ly,q2m2,q2m8,q2mc,q2km,Dt.eval,e1,c1,e2,c2,bne_self_eq_false,cond_false,e3,Bool.not_true,e4,e5,c5,hw,hw2]
              refine (e6).trans ?_
              split
              · rfl
              · split<;>rfl
          · rw [if_pos c5]
            simp only [q2qw,q2ks,q2kw,q2l0,q2l8,q2lc,q2li,q2lo,q2ls,q2lu,q2km,Dt.eval,e1,c1,e2,c2,bne_self_eq_false,cond_false,e3,Bool.not_true,e4,e5,show (qsv (ptsL P) n dd != 0)=true from bne_iff_ne.2 c5,cond_true]
    · rw [if_pos c2]
      simp only [q2qw,q2ks,q2kw,q2l0,q2l8,q2lc,q2le,q2km,Dt.eval,e1,c1,e2,bne_self_eq_false,cond_false,show (chkT rb B != 0)=true from bne_iff_ne.2 c2,cond_true]
  · rw [if_pos c1]
    simp only [q2qw,q2ks,q2kw,q2l0,q2l4,q2km,Dt.eval,e1,show (chkT ra A != 0)=true from bne_iff_ne.2 c1,cond_true]
end Go.Proofs.Ytoakhncbmpdacaa
