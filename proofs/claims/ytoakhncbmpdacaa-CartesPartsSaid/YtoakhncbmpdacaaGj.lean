/- Walks of the references; the orders agree; examples. -/
import Derived.Test.YtoakhncbmpdacaaGi
set_option linter.unusedSimpArgs false
set_option linter.unusedVariables false
namespace Go.Pel
open Go Go.Tx
abbrev N3:Type:=Int×Int×Int×Unit
inductive Tr (N:List N3):Int→List Nat→Prop
  | leaf (i:Int):i<0→Tr N i []
  | node (k:Nat) (x:N3) (a b:List Nat):N[k]?=some x→Tr N x.2.1 a→Tr N x.2.2.1 b→Tr N (k:Int) (a++k :: b)
theorem Tr.uniq {N:List N3} {i:Int} {a b:List Nat} (ha:Tr N i a) (hb:Tr N i b):a=b:=by
  induction ha generalizing b with
  | leaf i hi =>
    cases hb with
    | leaf _ _=>rfl
    | node k x a b h _ _=>omega
  | node k x a b h _ _ iha ihb =>
    generalize hi:(k:Int)=i at hb
    cases hb with
    | leaf _ hi'=>omega
    | node k' x' a' b' h' h1 h2 =>
      have:k=k':=by omega
      subst this
      rw [h] at h';injection h' with h';subst h'
      rw [iha h1,ihb h2]
theorem Tr.lt {N:List N3} {i:Int} {a:List Nat} (ha:Tr N i a):∀ k∈a,k<N.length:=by
  induction ha with
  | leaf i hi=>intro k hk;cases hk
  | node k x a b h _ _ iha ihb =>
    intro j hj
    rcases List.mem_append.1 hj with hj | hj
    · exact iha j hj
    · rcases List.mem_cons.1 hj with rfl | hj
      · exact (List.getElem?_eq_some_iff.1 h).1
      · exact ihb j hj
theorem Tr.root {N:List N3} {k:Nat} {a:List Nat} (ha:Tr N (k:Int) a):k∈a:=by
  generalize hi:(k:Int)=i at ha
  cases ha with
  | leaf _ h=>omega
  | node k' x a b _ _ _=>simp;omega
def lkB (N:List N3) (i:Int):Prop:=i<N.length
def LkOk (N:List N3):Prop:=∀ x∈N,lkB N x.2.1∧lkB N x.2.2.1
def wk (N:List N3):Nat→Int→List Nat→List Nat→List Nat→Option (List Nat×Bool)
  | 0,_,_,_,_=>none
  | f + 1, i, out, op, met =>
    if i<0 then match op with
      | []=>some (out,true)
      | k :: r=>wk N f ((N[k]?).getD (0,0,0,())).2.2.1 (out ++ [k]) r met
    else if i.toNat∈met then some ([],false) else wk N f ((N[i.toNat]?).getD (0,0,0,())).2.1 out (i.toNat :: op) (i.toNat :: met)
theorem q35s {N:List N3}:∀ {f g:Nat} {i:Int} {out op met:List Nat} {r:List Nat×Bool},f≤g→wk N f i out op met=some r→wk N g i out op met=some r
  | 0,g,_,_,_,_,_,_,h=>by cases h
  | f+1,0,_,_,_,_,_,hg,_=>by omega
  | f + 1, g + 1, i, out, op, met, r, hg, h => by
    unfold wk at h ⊢
    split at h
    · next hi =>
      rw [if_pos hi]
      cases op with
      | nil=>exact h
      | cons k q=>exact q35s (by omega) h
    · next hi =>
      rw [if_neg hi]
      split at h
      · next hm=>rw [if_pos hm];exact h
      · next hm=>rw [if_neg hm];exact q35s (by omega) h
theorem q35t {N:List N3} {i:Int} {a:List Nat} (ha:Tr N i a):∀ (out op met:List Nat),a.Nodup→(∀ k∈a,k ∉ met)→∃ (j:Int) (m:Nat) (met':List Nat),j<0∧(∀ k,k∈met'↔k∈met∨k∈a)∧m≤2*a.length∧∀ f r,wk N f j (out++a) op met'=some r→wk N (f+m) i out op met=some r:=by
  induction ha with
  | leaf i hi =>
    intro out op met _ _
    exact ⟨i,0,met,hi,fun k=>by simp,Nat.zero_le _,fun f r h=>by rwa [List.append_nil] at h⟩
  | node k x a b h h1 h2 iha ihb =>
    intro out op met hd hm
    rw [List.nodup_append] at hd
    obtain ⟨d1,d2,d3⟩:=hd
    obtain ⟨d4,d5⟩:=List.nodup_cons.1 d2
    have ka:k ∉ a:=fun c=>d3 k c k (List.mem_cons_self ..) rfl
    obtain ⟨j1,m1,met1,c1,c2,c3,c4⟩:=iha out (k :: op) (k :: met) d1 (fun z hz c=>by
      rcases List.mem_cons.1 c with rfl | c
      · exact ka hz
      · exact hm z (List.mem_append_left _ hz) c)
    obtain ⟨j2,m2,met2,e1,e2,e3,e4⟩:=ihb (out++a ++ [k]) op met1 d5 (fun z hz c=>by
      rcases (c2 z).1 c with c | c
      · rcases List.mem_cons.1 c with rfl | c
        · exact d4 hz
        · exact hm z (List.mem_append_right _ (List.mem_cons_of_mem _ hz)) c
      · exact d3 z c z (List.mem_cons_of_mem _ hz) rfl)
    refine ⟨j2,m2+1+m1+1,met2,e1,fun z=>?_,by rw [List.length_append,List.length_cons];omega,fun f r hr=>?_⟩
    · rw [e2, c2, List.mem_cons, List.mem_append, List.mem_cons]
      constructor
      · rintro ((k | k) | k)
        · rcases k with k | k
          · exact .inr (.inr (.inl k))
          · exact .inl k
        · exact .inr (.inl k)
        · exact .inr (.inr (.inr k))
      · rintro (k | k | k | k)
        · exact .inl (.inl (.inr k))
        · exact .inl (.inr k)
        · exact .inl (.inl (.inl k))
        · exact .inr k
    · have q1 := e4 f r (by rw [List.append_assoc, List.append_assoc]; exact hr)
      have hx:(N[k]?).getD (0,0,0,())=x:=by rw [h];rfl
      have q2:wk N (f+m2+1) j1 (out++a) (k :: op) met1=some r:=by
        unfold wk
        rw [if_pos c1]
        show wk N (f+m2) ((N[k]?).getD (0,0,0,())).2.2.1 (out++a ++ [k]) op met1=some r
        rw [hx];exact q1
      have q3:=c4 _ _ q2
      show wk N (f+(m2+1+m1)+1) (k:Int) out op met=some r
      unfold wk
      rw [if_neg (by omega),Int.toNat_natCast,if_neg (hm k (by simp)),hx,show f+(m2+1+m1)=f+m2+1+m1 by omega]
      exact q3
inductive Stk (N:List N3):List Nat→List Nat→List Nat→Prop
  | nil:Stk N [] [] []
  | cons (k:Nat) (r b c bs:List Nat):Tr N ((N[k]?).getD (0,0,0,())).2.2.1 b→Stk N r c bs→Stk N (k :: r) (k :: (b++c)) (b++bs)
theorem q35u {N:List N3} (hl:LkOk N):∀ (f:Nat) (i:Int) (out op met l:List Nat),lkB N i→(∀ k∈op,k<N.length)→wk N f i out op met=some (l,true)→∃ a c bs,Tr N i a∧Stk N op c bs∧l=out++(a++c)∧(a++bs).Nodup∧∀ k∈a++bs,k ∉ met
  | 0,_,_,_,_,_,_,_,h=>by cases h
  | f + 1, i, out, op, met, l, hi, hop, h => by
    unfold wk at h
    split at h
    · next h0 =>
      cases op with
      | nil =>
        injection h with h;injection h with h _
        exact ⟨[],[],[],.leaf i h0,.nil,by simp [h],List.nodup_nil,fun k hk=>by cases hk⟩
      | cons k r =>
        have hk:=hop k (List.mem_cons_self ..)
        have hx:(N[k]?).getD (0,0,0,())∈N:=by rw [List.getElem?_eq_getElem hk];exact List.getElem_mem hk
        obtain ⟨b,c,bs,t1,t2,t3,t4,t5⟩:=q35u hl f _ _ _ _ l (hl _ hx).2 (fun z hz=>hop z (List.mem_cons_of_mem _ hz)) h
        exact ⟨[],k :: (b++c),b++bs,.leaf i h0,.cons k r b c bs t1 t2,by rw [t3];simp,by simpa using t4,by simpa using t5⟩
    · next h0 =>
      split at h
      · injection h with h;injection h with _ h;cases h
      · next hm =>
        obtain ⟨k,rfl⟩:∃ k:Nat,i=k:=⟨i.toNat,by omega⟩
        rw [Int.toNat_natCast] at h hm
        have hk:k<N.length:=by unfold lkB at hi;omega
        have hx:(N[k]?).getD (0,0,0,())∈N:=by rw [List.getElem?_eq_getElem hk];exact List.getElem_mem hk
        obtain ⟨a,c,bs,t1,t2,t3,t4,t5⟩:=q35u hl f _ _ _ _ l (hl _ hx).1 (fun z hz=>by
          rcases List.mem_cons.1 hz with rfl | hz
          · exact hk
          · exact hop z hz) h
        cases t2 with
        | cons _ _ b c bs u1 u2 =>
          obtain ⟨x,hx2⟩:∃ x,N[k]?=some x:=⟨_,List.getElem?_eq_getElem hk⟩
          rw [hx2] at t1 u1
          have hnk:k ∉ a++(b++bs):=fun c=>t5 k c (List.mem_cons_self ..)
          refine ⟨a++k :: b,c,bs,.node k x a b hx2 t1 u1,u2,by rw [t3];simp,?_,fun z hz c=>?_⟩
          · have e : (a ++ k :: b) ++ bs = a ++ k :: (b ++ bs) := by simp
            rw [e]
            exact (List.perm_middle (l₁:=a) (l₂:=b++bs) (a:=k)).nodup_iff.2 (List.nodup_cons.2 ⟨hnk,t4⟩)
          · have hz':z=k∨z∈a++(b++bs):=by
              simp only [List.mem_append,List.mem_cons] at hz ⊢
              rcases hz with (h | h | h) | h
              · exact .inr (.inl h)
              · exact .inl h
              · exact .inr (.inr (.inl h))
              · exact .inr (.inr (.inr h))
            rcases hz' with rfl | hz'
            · exact hm c
            · exact t5 z hz' (List.mem_cons_of_mem _ c)
theorem q35v:∀ (n:Nat) (l:List Nat),l.Nodup→(∀ k∈l,k<n)→l.length≤n
  | 0, l, _, h => by
    cases l with
    | nil=>exact Nat.le_refl _
    | cons k r=>exact absurd (h k (List.mem_cons_self ..)) (by omega)
  | n + 1, l, hd, h => by
    have h1:=q35v n (l.erase n) (hd.erase n) (fun k hk=>by
      have h2:=h k (List.mem_of_mem_erase hk)
      have h3:k≠n:=fun e=>by subst e;exact (hd.not_mem_erase) hk
      omega)
    have h2:l.length≤(l.erase n).length+1:=by rw [List.length_erase];split<;>omega
    omega
theorem q35w {N:List N3} (hl:LkOk N):∀ (f:Nat) (i:Int) (out op met:List Nat),lkB N i→(∀ k∈op,k<N.length)→met.Nodup→(∀ k∈met,k<N.length)→2*(N.length - met.length)+op.length<f→(wk N f i out op met).isSome=true
  | 0,_,_,_,_,_,_,_,_,h=>by omega
  | f + 1, i, out, op, met, hi, hop, hd, hm, hf => by
    unfold wk
    split
    · cases op with
      | nil=>rfl
      | cons k r =>
        have hk:=hop k (List.mem_cons_self ..)
        have hx:(N[k]?).getD (0,0,0,())∈N:=by rw [List.getElem?_eq_getElem hk];exact List.getElem_mem hk
        rw [List.length_cons] at hf
        exact q35w hl f _ _ _ _ (hl _ hx).2 (fun z hz=>hop z (List.mem_cons_of_mem _ hz)) hd hm (by omega)
    · next h0 =>
      split
      · rfl
      · next hnm =>
        obtain ⟨k,rfl⟩:∃ k:Nat,i=k:=⟨i.toNat,by omega⟩
        rw [Int.toNat_natCast] at hnm ⊢
        have hk:k<N.length:=by unfold lkB at hi;omega
        have hx:(N[k]?).getD (0,0,0,())∈N:=by rw [List.getElem?_eq_getElem hk];exact List.getElem_mem hk
        have hd2:(k :: met).Nodup:=List.nodup_cons.2 ⟨hnm,hd⟩
        have hm2:∀ z∈k :: met,z<N.length:=fun z hz=>by
          rcases List.mem_cons.1 hz with rfl | hz
          · exact hk
          · exact hm z hz
        have hlen:(k :: met).length≤N.length:=q35v _ _ hd2 hm2
        rw [List.length_cons] at hlen
        exact q35w hl f _ _ _ _ (hl _ hx).1 (fun z hz=>by
          rcases List.mem_cons.1 hz with rfl | hz
          · exact hk
          · exact hop z hz) hd2 hm2 (by rw [List.length_cons,List.length_cons];omega)
end Go.Pel

namespace Go.Pel
open Go Go.Tx
def lfN (N:List N3) (p:Nat):Int:=((N[p]?).getD (0,0,0,())).2.1
def rtN (N:List N3) (p:Nat):Int:=((N[p]?).getD (0,0,0,())).2.2.1
def cntN (N:List N3) (z:Nat):Nat:=(List.range N.length).countP (fun p=>decide (lfN N p=z))+(List.range N.length).countP (fun p=>decide (rtN N p=z))
theorem q35x:∀ (l l':List Nat),l.Nodup→(∀ x∈l,x∈l')→l.length≤l'.length
  | [],_,_,_=>Nat.zero_le _
  | x :: r, l', hd, hs => by
    obtain ⟨d1,d2⟩:=List.nodup_cons.1 hd
    have hx:=hs x (List.mem_cons_self ..)
    have:=q35x r (l'.erase x) d2 (fun y hy=>(List.mem_erase_of_ne (fun e=>by subst e;exact d1 hy)).2 (hs y (List.mem_cons_of_mem _ hy)))
    rw [List.length_erase_of_mem hx] at this
    have hp:=List.length_pos_of_mem hx
    rw [List.length_cons];omega
theorem q35y {l l':List Nat} (hd:l.Nodup) (hs:∀ x∈l,x∈l') (P:Nat→Bool):l.countP P≤l'.countP P:=by
  rw [List.countP_eq_length_filter,List.countP_eq_length_filter]
  exact q35x _ _ (hd.filter P) fun x hx=>by
    rw [List.mem_filter] at hx ⊢
    exact ⟨hs x hx.1,hx.2⟩
structure Inv (N:List N3) (root i:Int) (out op met:List Nat):Prop where
  nd:met.Nodup
  lt:∀ k∈met,k<N.length
  pm:met.Perm (out++op)
  ct:∀ z:Nat,met.count z+(if i=z then 1 else 0)=met.countP (fun p=>decide (lfN N p=z))+out.countP (fun p=>decide (rtN N p=z))+(if root=z then 1 else 0)
theorem q35z {N:List N3} (hl:LkOk N) {root:Int}:∀ (f:Nat) (i:Int) (out op met l:List Nat) (b:Bool),lkB N i→Inv N root i out op met→wk N f i out op met=some (l,b)→(b=true→∃ j met',j<0∧Inv N root j l [] met')∧(b=false→∃ z:Nat,z<N.length∧2≤cntN N z+(if root=z then 1 else 0))
  | 0,_,_,_,_,_,_,_,_,h=>by cases h
  | f + 1, i, out, op, met, l, b, hi, hI, h => by
    unfold wk at h
    split at h
    · next h0 =>
      cases op with
      | nil =>
        injection h with h;injection h with h1 h2
        subst h1 h2
        exact ⟨fun _=>⟨i,met,h0,hI⟩,fun k=>by cases k⟩
      | cons k r =>
        have hkm:k∈met:=hI.pm.mem_iff.2 (by simp)
        have hk:=hI.lt k hkm
        have hx:(N[k]?).getD (0,0,0,())∈N:=by rw [List.getElem?_eq_getElem hk];exact List.getElem_mem hk
        refine q35z hl f _ _ _ _ l b (hl _ hx).2 ⟨hI.nd,hI.lt,by simpa using hI.pm,fun z=>?_⟩ h
        have:=hI.ct z
        rw [if_neg (show ¬ i=(z:Int) by omega)] at this
        rw [List.countP_append,List.countP_cons,List.countP_nil]
        show met.count z+(if rtN N k=z then 1 else 0)=_
        by_cases c:rtN N k=z
        · rw [if_pos c,if_pos (decide_eq_true c)];omega
        · rw [if_neg c,if_neg (by simpa using c)];omega
    · next h0 =>
      obtain ⟨k,rfl⟩:∃ k:Nat,i=k:=⟨i.toNat,by omega⟩
      rw [Int.toNat_natCast] at h
      have hk:k<N.length:=by unfold lkB at hi;omega
      split at h
      · next hm =>
        injection h with h;injection h with h1 h2
        subst h1 h2
        refine ⟨fun e=>(by cases e),fun _=>⟨k,hk,?_⟩⟩
        have h1:=hI.ct k
        have h2:1≤met.count k:=List.one_le_count_iff.2 hm
        have hsub:∀ x∈met,x∈List.range N.length:=fun x hx=>List.mem_range.2 (hI.lt x hx)
        have h3:=q35y hI.nd hsub (fun p=>decide (lfN N p=(k:Int)))
        have hod:out.Nodup:=by
          have:=(hI.pm.nodup_iff).1 hI.nd
          exact (List.nodup_append.1 this).1
        have h4:=q35y hod (fun x hx=>hsub x (hI.pm.mem_iff.2 (List.mem_append_left _ hx))) (fun p=>decide (rtN N p=(k:Int)))
        rw [if_pos rfl] at h1
        unfold cntN;omega
      · next hm =>
        have hx:(N[k]?).getD (0,0,0,())∈N:=by rw [List.getElem?_eq_getElem hk];exact List.getElem_mem hk
        refine q35z hl f _ _ _ _ l b (hl _ hx).1 ⟨List.nodup_cons.2 ⟨hm,hI.nd⟩,fun z hz=>?_,?_,fun z=>?_⟩ h
        · rcases List.mem_cons.1 hz with rfl | hz
          · exact hk
          · exact hI.lt z hz
        · exact (hI.pm.cons k).trans (List.perm_middle.symm)
        · have := hI.ct z
          rw [List.countP_cons,List.count_cons]
          show met.count z+(if (k == z)=true then 1 else 0)+(if lfN N k=z then 1 else 0)=_
          have e1:(if (k == z)=true then 1 else 0)=(if (k:Int)=z then 1 else 0):=by
            by_cases c:k=z
            · subst c;simp
            · rw [if_neg (by simpa using c),if_neg (by omega)]
          rw [e1]
          by_cases c:lfN N k=z
          · rw [if_pos c,if_pos (show decide (lfN N k=(z:Int))=true from decide_eq_true c)];omega
          · rw [if_neg c,if_neg (show ¬ decide (lfN N k=(z:Int))=true by simpa using c)];omega
end Go.Pel

namespace Go.Pel
open Go Go.Tx
def q360 (N:List N3) (root:Int):Prop:=∀ z:Nat,z<N.length→cntN N z=if root=z then 0 else 1
theorem inv0 (N:List N3) (root:Int):Inv N root root [] [] []:=⟨List.nodup_nil,fun k hk=>(by cases hk),List.Perm.refl _,fun z=>by simp⟩
theorem q361 {N:List N3} (hl:LkOk N) {root:Int} (hr:lkB N root) {f:Nat} (hf:2*N.length<f):(∃ l,wk N f root [] [] []=some (l,true)∧Tr N root l∧l.Nodup∧(∀ k∈l,k<N.length)∧(l.length=N.length→q360 N root))∨(∃ l,wk N f root [] [] []=some (l,false)∧¬ q360 N root∧∀ l,Tr N root l→¬ l.Nodup):=by
  have he:=q35w hl f root [] [] [] hr (fun k hk=>by cases hk) List.nodup_nil (fun k hk=>by cases hk) (by simp only [List.length_nil];omega)
  obtain ⟨⟨l,b⟩,h⟩:=Option.isSome_iff_exists.1 he
  obtain ⟨i1,i2⟩:=q35z hl f root [] [] [] l b hr (inv0 N root) h
  cases b with
  | true =>
    left
    obtain ⟨a,c,bs,t1,t2,t3,t4,_⟩:=q35u hl f root [] [] [] l hr (fun k hk=>by cases hk) h
    cases t2
    rw [List.append_nil,List.nil_append] at t3
    subst t3
    rw [List.append_nil] at t4
    refine ⟨l,h,t1,t4,t1.lt,fun hn z hz=>?_⟩
    obtain ⟨j,met,hj,hI⟩:=i1 rfl
    have hp:met.Perm l:=by have:=hI.pm;rwa [List.append_nil] at this
    have hall:∀ x,x<N.length→x∈l:=fun x hx=>by
      rcases Classical.em (x∈l) with c | c
      · exact c
      · have:=q35v N.length (x :: l) (List.nodup_cons.2 ⟨c,t4⟩) (fun k hk=>by
          rcases List.mem_cons.1 hk with rfl | hk
          · exact hx
          · exact t1.lt k hk)
        rw [List.length_cons] at this;omega
    have cnt:∀ (m:List Nat),m.Nodup→(∀ x,x∈m↔x∈l)→∀ P:Nat→Bool,m.countP P=(List.range N.length).countP P:=fun m hm hml P =>
      Nat.le_antisymm (q35y hm (fun x hx=>List.mem_range.2 (t1.lt x ((hml x).1 hx))) P) (q35y List.nodup_range (fun x hx=>(hml x).2 (hall x (List.mem_range.1 hx))) P)
    have h1:=hI.ct z
    rw [if_neg (show ¬ j=(z:Int) by omega),cnt met hI.nd (fun x=>hp.mem_iff),cnt l t4 (fun x=>Iff.rfl)] at h1
    have h2:met.count z=1:=by
      have a1:1≤met.count z:=List.one_le_count_iff.2 (hp.mem_iff.2 (hall z hz))
      have a2:=List.nodup_iff_count.1 hI.nd z
      omega
    unfold cntN
    split<;>rename_i c
    · rw [if_pos c] at h1;omega
    · rw [if_neg c] at h1;omega
  | false =>
    right
    refine ⟨l,h,fun ho=>?_,fun a ha hd=>?_⟩
    · obtain ⟨z, hz, h2⟩ := i2 rfl
      have:=ho z hz
      split at this<;>rename_i c
      · rw [if_pos c] at h2;omega
      · rw [if_neg c] at h2;omega
    · obtain ⟨j, m, met', c1, _, _, c4⟩ := q35t ha [] [] [] hd (fun k _ k2 => by cases k2)
      have q:wk N 1 j ([] ++ a) [] met'=some (a,true):=by unfold wk;rw [if_pos c1];rfl
      have q2:=c4 1 _ q
      have q3:=q35s (Nat.le_add_right (1+m) f) q2
      have q4:=q35s (Nat.le_add_left f (1+m)) h
      rw [q3] at q4
      injection q4 with q4;injection q4 with _ q4;cases q4
end Go.Pel

namespace Go.Pel
open Go Go.Tx
def nodL (l:List Nat):List (Int×Unit):=l.map fun (k:Nat)=>((k:Int),())
theorem q363 (l:List Nat):(nodL l).length=l.length:=List.length_map _
def marks (n:Nat) (met:List Nat):List (Bool×Unit):=(List.range n).map fun k=>(decide (k∈met),())
theorem q364 (n:Nat) (met:List Nat):(marks n met).length=n:=by unfold marks;rw [List.length_map,List.length_range]
theorem q365 {n:Nat} {met:List Nat} {k:Nat} (h:k<n):(marks n met)[k]?=some (decide (k∈met),()):=by
  unfold marks;rw [List.getElem?_map,List.getElem?_range h];rfl
theorem q366 {n:Nat} {met:List Nat} {k:Nat}:(marks n met).set k (true,())=marks n (k :: met):=by
  refine List.ext_getElem? fun j=>?_
  rcases Nat.lt_or_ge j n with hj | hj
  · rw [q365 hj]
    by_cases e:k=j
    · subst e
      rw [List.getElem?_set_self (by rw [q364];exact hj)]
      simp
    · rw [List.getElem?_set_ne e, q365 hj]
      have:(j∈k :: met)↔j∈met:=by rw [List.mem_cons];exact ⟨fun h=>h.elim (fun h=>absurd h.symm e) id,.inr⟩
      simp only [this]
  · rw [List.getElem?_eq_none (by rw [List.length_set,q364];exact hj),List.getElem?_eq_none (by rw [q364];exact hj)]
theorem q367 (n:Nat):List.replicate n ((false,()):Bool×Unit)=marks n []:=by
  refine List.ext_getElem? fun j=>?_
  rcases Nat.lt_or_ge j n with hj | hj
  · rw [q365 hj,List.getElem?_replicate,if_pos hj];simp
  · rw [List.getElem?_eq_none (by rw [List.length_replicate];exact hj),List.getElem?_eq_none (by rw [q364];exact hj)]
structure Inv2 (N:List N3) (out op met:List Nat):Prop where
  nd:met.Nodup
  lt:∀ k∈met,k<N.length
  pm:met.Perm (out++op)
theorem Inv2.len {N:List N3} {out op met:List Nat} (h:Inv2 N out op met):out.length+op.length≤N.length:=by
  have h1:=q35v _ _ h.nd h.lt
  have h2:=h.pm.length_eq
  rw [List.length_append] at h2;omega
end Go.Pel
namespace Go.Proofs.Ytoakhncbmpdacaa
open Go Go.Tx Go.Pel
theorem inbK {k n:Nat} (h:k<n):inB (k:Int) n=true:=q3j.2 ⟨by omega,by omega⟩
theorem eltK {α:Type} {z:α} {l:List α} {k:Nat} {x:α} (h:l[k]?=some x):elt z l (k:Int).toNat=x:=by unfold elt;rw [Int.toNat_natCast,h];rfl
theorem q368 {α:Type} {z:α} {l:List α} {n:Nat} {x:α} (h:l[n]?=some x):elt z l n=x:=by unfold elt;rw [h];rfl
def resW (r:List Nat×Bool):qv4:=(nodL r.1,r.2)
set_option maxHeartbeats 4000000 in
theorem q369 (d:Nat) {N:List N3} (hl:LkOk N) (hn:N.length≤1000) (root:Int):∀ (F:Nat) (i:Int) (out op met:List Nat) (r:List Nat×Bool) (fo fi:Nat),F≤d→F≤fo→F≤fi→lkB N i→Inv2 N out op met→(0≤i∨op ≠ [])→wk N F i out op met=some r →
    iter (qwi d (iter (qwl d) fo)) fi (i,root,N,nodL out,nodL op.reverse,marks N.length met)=some (resW r)
  | 0,_,_,_,_,_,_,_,_,_,_,_,_,_,h=>by cases h
  | F + 1, i, out, op, met, r, fo, fi, hd, hfo, hfi, hi, hI, hop, h => by
    have hlen:=hI.len
    obtain ⟨fi,rfl⟩:∃ g,fi=g+1:=⟨fi - 1,by omega⟩
    show qwi d (iter (qwl d) fo) (iter (qwi d (iter (qwl d) fo)) fi) (i,root,N,nodL out,nodL op.reverse,marks N.length met)=_
    unfold wk at h
    have ih:=fun i out op met fo fi=>q369 d hl hn root F i out op met r fo fi
    generalize hself:iter (qwi d (iter (qwl d) fo)) fi=self
    unfold qwi
    by_cases h0:i<0
    · rw [if_pos h0] at h
      cases op with
      | nil => rcases hop with hop | hop
               · omega
               · exact absurd rfl hop
      | cons k q =>
        have hkm:k∈met:=hI.pm.mem_iff.2 (by simp)
        have hk:=hI.lt k hkm
        obtain ⟨x,hx⟩:∃ x,N[k]?=some x:=⟨_,List.getElem?_eq_getElem hk⟩
        have hxm:=List.mem_of_getElem? hx
        have c0:decide (i≥0)=false:=by rw [decide_eq_false_iff_not];omega
        rw [List.length_cons] at hlen
        have hopl:(nodL (k :: q).reverse).length=q.length+1:=by rw [q363,List.length_reverse,List.length_cons]
        have w1:IntKind.wrap .i64 (((q.length+1:Nat):Int) - 1)=(q.length:Int):=by rw [IntWalk.i64_in _ (by omega)];omega
        have g1:(nodL (k :: q).reverse)[q.length]?=some ((k:Int),()):=by
          unfold nodL
          rw [List.reverse_cons,List.map_append,List.getElem?_append_right (by simp),List.length_map,List.length_reverse,Nat.sub_self];rfl
        have t1:(nodL (k :: q).reverse).take q.length=nodL q.reverse:=by
          unfold nodL
          rw [List.reverse_cons,List.map_append,List.take_append_of_le_length (by simp),List.take_of_length_le (by simp)]
        have c1:decide ((0:Int)≤(q.length:Int))=true:=by rw [decide_eq_true_eq];omega
        have c2:decide ((q.length:Int)≤((q.length+1:Nat):Int))=true:=by rw [decide_eq_true_eq];omega
        have ap:apB (nodL out).length 1=true:=by unfold apB;rw [Nat.ble_eq,q363];omega
        have hto:nodL out ++ [((k:Int),())]=nodL (out ++ [k]):=by unfold nodL;rw [List.map_append];rfl
        have h':wk N F x.2.2.1 (out ++ [k]) q met=some r:=by
          have h2:wk N F ((N[k]?).getD (0,0,0,())).2.2.1 (out ++ [k]) q met=some r:=h
          rwa [hx] at h2
        have hI':Inv2 N (out ++ [k]) q met:=⟨hI.nd,hI.lt,by have:=hI.pm;simpa using this⟩
        have hlk:=(hl x hxm).2
        simp only [qvy,qwc,qwe,qwg,Dt.eval,c0,cond_false,hopl,w1,inbK (show q.length<q.length+1 by omega),cond_true,q368 g1,c1,c2,Bool.and_self,Int.toNat_natCast,t1,List.length_cons,List.length_nil,Nat.zero_add,ap,hto,inbK hk,q368 hx]
        obtain ⟨fo,rfl⟩:∃ g,fo=g+1:=⟨fo - 1,by omega⟩
        show qwl d (iter (qwl d) fo) (x.2.2.1,root,N,nodL (out ++ [k]),nodL q.reverse,marks N.length met)=_
        unfold qwl
        have goon:0≤x.2.2.1∨q ≠ []→iter (qwi d (iter (qwl d) fo)) d (x.2.2.1,root,N,nodL (out ++ [k]),nodL q.reverse,marks N.length met)=some (resW r):=fun hc=>ih _ _ _ _ fo d (by omega) (by omega) (by omega) hlk hI' hc h'
        by_cases hx0:x.2.2.1≥0
        · simp only [qvu, Dt.eval, decide_eq_true hx0, cond_true]
          exact goon (.inl hx0)
        · simp only [qvu, Dt.eval, decide_eq_false hx0, cond_false]
          by_cases hq:q=[]
          · subst hq
            have hr:r=(out ++ [k],true):=by
              cases F with
              | zero=>cases h'
              | succ F =>
                unfold wk at h'
                rw [if_pos (by omega)] at h'
                injection h' with h';exact h'.symm
            subst hr
            simp only [qwj,Dt.eval,show decide (((nodL ([]:List Nat).reverse).length:Int) > 0)=false from rfl,cond_false]
            rfl
          · have c5:decide (((nodL q.reverse).length:Int) > 0)=true:=by
              rw [decide_eq_true_eq,q363,List.length_reverse]
              have:=List.length_pos_iff.2 hq;omega
            simp only [c5,cond_true]
            exact goon (.inr hq)
    · rw [if_neg h0] at h
      obtain ⟨k,rfl⟩:∃ k:Nat,i=k:=⟨i.toNat,by omega⟩
      rw [Int.toNat_natCast] at h
      have hk:k<N.length:=by unfold lkB at hi;omega
      obtain ⟨x,hx⟩:∃ x,N[k]?=some x:=⟨_,List.getElem?_eq_getElem hk⟩
      have hxm:=List.mem_of_getElem? hx
      have c0:decide ((k:Int)≥0)=true:=by rw [decide_eq_true_eq];omega
      have ml:=q364 N.length met
      have mg:=q365 (n:=N.length) (met:=met) hk
      simp only [qvy,qw2,qw6,Dt.eval,c0,cond_true,inbK (show k<(marks N.length met).length by omega),eltK mg]
      by_cases hm:k∈met
      · rw [if_pos hm] at h
        injection h with h;subst h
        simp only [decide_eq_true hm,cond_true]
        rfl
      · rw [if_neg hm, hx] at h
        have h':wk N F x.2.1 out (k :: op) (k :: met)=some r:=h
        have ap:apB (nodL op.reverse).length 1=true:=by unfold apB;rw [Nat.ble_eq,q363,List.length_reverse];omega
        have hto:nodL op.reverse ++ [((k:Int),())]=nodL (k :: op).reverse:=by unfold nodL;rw [List.reverse_cons,List.map_append];rfl
        have hI':Inv2 N out (k :: op) (k :: met):=⟨List.nodup_cons.2 ⟨hm,hI.nd⟩,fun z hz=>by
          rcases List.mem_cons.1 hz with rfl | hz
          · exact hk
          · exact hI.lt z hz,(hI.pm.cons k).trans (List.perm_middle.symm)⟩
        simp only [decide_eq_false hm,cond_false,qw8,qwa,Dt.eval,List.length_cons,List.length_nil,Nat.zero_add,ap,cond_true,inbK (show k<(marks N.length met).length by omega),Int.toNat_natCast,q366,hto,inbK hk,eltK hx,q368 hx]
        subst hself
        exact ih _ _ _ _ fo fi (by omega) (by omega) (by omega) (hl x hxm).1 hI' (.inr (by simp)) h'
theorem q36a (d:Nat) {N:List N3} (hl:LkOk N) (hn:N.length≤1000) (hd:5000≤d) {root:Int} (hr:lkB N root) {r:List Nat×Bool} (h:wk N (2*N.length+1) root [] [] []=some r):qwm d ((root,N,()),())=some (resW r):=by
  have hm:mkB (N.length:Int) (N.length:Int)=true:=by unfold mkB;simp;omega
  have hI:Inv2 N [] [] []:=⟨List.nodup_nil,fun k hk=>(by cases hk),List.Perm.refl _⟩
  have e:=fun hop=>q369 d hl hn root (2*N.length+1) root [] [] [] r (d - 1) d (by omega) (by omega) (by omega) hr hI hop h
  simp only [qwm,qv8,qve,qvi,qvm,qvq,Dt.eval,hm,cond_true,Int.toNat_natCast]
  obtain ⟨f,hf⟩:∃ f,d=f+1:=⟨d - 1,by omega⟩
  rw [show d - 1=f by omega] at e
  rw [show iter (qwl d) d=qwl d (iter (qwl d) f) from by
    generalize hL:qwl d=L
    rw [hf];rfl]
  unfold qwl
  by_cases h0:root≥0
  · simp only [qvu, Dt.eval, decide_eq_true h0, cond_true]
    rw [show List.replicate N.length zb=marks N.length [] from q367 _]
    exact e (.inl h0)
  · simp only [qvu, qwj, Dt.eval, decide_eq_false h0, cond_false, List.length_nil, show decide (((0 : Nat) : Int) > 0) = false from rfl]
    unfold wk at h
    rw [if_pos (by omega)] at h
    injection h with h;subst h;rfl
end Go.Proofs.Ytoakhncbmpdacaa

namespace Go.Proofs.Ytoakhncbmpdacaa
open Go Go.Tx Go.Pel
end Go.Proofs.Ytoakhncbmpdacaa

namespace Go.Pel
open Go Go.Tx
end Go.Pel
namespace Go.Proofs.Ytoakhncbmpdacaa
open Go Go.Tx Go.Pel
theorem q36l {k:Nat} (h:k<1000000):IntKind.wrap .i64 ((k:Int)+1)=((k+1:Nat):Int):=by rw [IntWalk.i64_in _ (by omega)];omega
theorem decK {a b:Nat} (h:a<b):decide ((a:Int)<(b:Int))=true:=by rw [decide_eq_true_eq];omega
theorem decN {a b:Nat} (h:¬ a<b):decide ((a:Int)<(b:Int))=false:=by rw [decide_eq_false_iff_not];omega
end Go.Proofs.Ytoakhncbmpdacaa

namespace Go.Pel
open Go Go.Tx
def ndP (n:Nat) (x:N3):Bool:=decide (-1≤x.2.1)&&decide (-1≤x.2.2.1)&&decide (x.2.1<n)&&decide (x.2.2.1<n)&&decide (0≤x.1)&&decide (x.1≤65535)
theorem q36q {n:Nat} {x:N3}:ndP n x=true ↔ -1≤x.2.1∧-1≤x.2.2.1∧x.2.1<n∧x.2.2.1<n∧0≤x.1∧x.1≤65535:=by
  unfold ndP;simp only [Bool.and_eq_true,decide_eq_true_eq,and_assoc]
def idN (N:List N3) (p:Nat):Int:=((N[p]?).getD (0,0,0,())).1
def incF (N:List N3) (l:List Nat) (i:Nat):Bool:=(List.range' i (l.length - i)).all fun j=>decide (idN N ((l[j - 1]?).getD 0)<idN N ((l[j]?).getD 0))
end Go.Pel
namespace Go.Proofs.Ytoakhncbmpdacaa
open Go Go.Tx Go.Pel
theorem q36r {l:List Nat} {j k:Nat} (h:l[j]?=some k):(nodL l)[j]?=some ((k:Int),()):=by unfold nodL;rw [List.getElem?_map,h];rfl
theorem q36s (d:Nat) {N:List N3} {l:List Nat} (hlen:l.length=N.length) (hn:N.length≤1000) (hlt:∀ k∈l,k<N.length) (root:Int):∀ (f i:Nat),N.length - i<f→1≤i→iter (qyw d) f ((N.length:Int),(i:Int),root,N,nodL l)=some (if incF N l i=true then 0 else 8)
  | 0,i,h,_=>by omega
  | f + 1, i, hf, hi => by
    have ih:=q36s d hlen hn hlt root f (i+1)
    rw [iter]
    revert ih
    generalize iter (qyw d) f=self
    intro ih
    unfold qyw
    by_cases hl:i<N.length
    · have ih := ih (by omega) (by omega)
      obtain ⟨a,ha⟩:∃ a,l[i - 1]?=some a:=⟨_,List.getElem?_eq_getElem (by omega)⟩
      obtain ⟨b,hb⟩:∃ b,l[i]?=some b:=⟨_,List.getElem?_eq_getElem (by omega)⟩
      have al:=hlt a (List.mem_of_getElem? ha)
      have bl:=hlt b (List.mem_of_getElem? hb)
      obtain ⟨x,hx⟩:∃ x,N[a]?=some x:=⟨_,List.getElem?_eq_getElem al⟩
      obtain ⟨y,hy⟩:∃ y,N[b]?=some y:=⟨_,List.getElem?_eq_getElem bl⟩
      have w1:IntKind.wrap .i64 ((i:Int) - 1)=((i - 1:Nat):Int):=by rw [IntWalk.i64_in _ (by omega)];omega
      have hs:incF N l i=(decide (x.1<y.1)&&incF N l (i+1)):=by
        unfold incF
        rw [show l.length - i=(l.length - (i+1))+1 by omega,List.range'_succ,List.all_cons,ha,hb]
        unfold idN
        simp only [Option.getD_some,hx,hy]
      rw [hs]
      simp only [qyk,qys,qyo,qyq,Dt.eval,decK hl,cond_true,w1,q363,inbK (show i - 1<l.length by omega),inbK (show i<l.length by omega),eltK (q36r ha),eltK (q36r hb),inbK al,inbK bl,eltK hx,eltK hy,q36l (show i<1000000 by omega)]
      by_cases hc:x.1<y.1
      · simp only [decide_eq_true hc, decide_eq_false (show ¬ x.1 ≥ y.1 by omega), cond_false, Bool.true_and]
        exact ih
      · simp only [decide_eq_false hc,decide_eq_true (show x.1≥y.1 by omega),cond_true,Bool.false_and,Bool.false_eq_true,if_false]
    · simp only [qyk, qyu, Dt.eval, decN hl, cond_false]
      unfold incF
      rw [show l.length - i=0 by omega];rfl
end Go.Proofs.Ytoakhncbmpdacaa

namespace Go.Pel
open Go Go.Tx
def wkR (N:List N3) (root:Int):List Nat×Bool:=(wk N (2*N.length+1) root [] [] []).getD ([],false)
def chkT (root:Int) (N:List N3):Int :=
  if 64<N.length then 4 else if root < -1∨(N.length:Int)≤root∨((root<0)≠(N.length=0)) then 8 else if (N.all (ndP N.length))=false then 8 else if (wkR N root).2=false∨(wkR N root).1.length≠N.length then 8 else if incF N (wkR N root).1 1=true then 0 else 8
theorem q36u {N:List N3} (h:N.all (ndP N.length)=true):LkOk N:=fun x hx=>by
  have:=q36q.1 (List.all_eq_true.1 h x hx)
  unfold lkB;omega
end Go.Pel
namespace Go.Proofs.Ytoakhncbmpdacaa
open Go Go.Tx Go.Pel
theorem q36v (d:Nat) (hd:5000≤d) {N:List N3} (hn:N.length≤64) {root:Int} (hr:root<N.length):∀ (f i:Nat),N.length - i<f→i≤N.length→(N.take i).all (ndP N.length)=true→iter (qyx d) f ((N.length:Int),N,(N.length:Int),(i:Int),root,N) =
    some (if (N.drop i).all (ndP N.length)=false then 8 else if (wkR N root).2=false∨(wkR N root).1.length≠N.length then 8 else if incF N (wkR N root).1 1=true then 0 else 8)
  | 0,i,h,_,_=>by omega
  | f + 1, i, hf, hle, hall => by
    have ih:=q36v d hd hn hr f (i+1)
    rw [iter]
    revert ih
    generalize iter (qyx d) f=self
    intro ih
    unfold qyx
    by_cases hl:i<N.length
    · obtain ⟨x, hx⟩ : ∃ x, N[i]? = some x := ⟨_, List.getElem?_eq_getElem hl⟩
      have hdr:N.drop i=x :: N.drop (i+1):=by
        obtain ⟨h1,rfl⟩:=List.getElem?_eq_some_iff.1 hx
        exact List.drop_eq_getElem_cons h1
      rw [hdr,List.all_cons]
      simp only [qxq,qxu,Dt.eval,decK hl,cond_true,inbK hl,eltK hx]
      cases hp:ndP N.length x with
      | true =>
        obtain ⟨p1,p2,p3,p4,p5,p6⟩:=q36q.1 hp
        have ih:=ih (by omega) (by omega) (by
          rw [List.take_add_one,hx,List.all_append,hall]
          show (true&&([x].all (ndP N.length)))=true
          simp [hp])
        have m1:decide (tmin x.2.1 x.2.2.1 < -1)=false:=by rw [decide_eq_false_iff_not];unfold tmin;split<;>omega
        have m2:decide (tmax x.2.1 x.2.2.1≥(N.length:Int))=false:=by rw [decide_eq_false_iff_not];unfold tmax;split<;>omega
        simp only [qxy,qy2,Dt.eval,m1,m2,cond_false,decide_eq_false (show ¬ x.1<0 by omega),decide_eq_false (show ¬ x.1 > 65535 by omega),q36l (show i<1000000 by omega),Bool.true_and]
        exact ih
      | false =>
        have hbad:tmin x.2.1 x.2.2.1 < -1∨tmax x.2.1 x.2.2.1≥(N.length:Int)∨x.1<0∨x.1 > 65535:=by
          have:¬ (-1≤x.2.1∧-1≤x.2.2.1∧x.2.1<(N.length:Int)∧x.2.2.1<(N.length:Int)∧0≤x.1∧x.1≤65535):=fun k=>by rw [q36q.2 k] at hp;cases hp
          unfold tmin tmax
          split<;>split<;>omega
        have fin:(if (false&&(N.drop (i+1)).all (ndP N.length))=false then (8:Int) else if (wkR N root).2=false∨(wkR N root).1.length≠N.length then 8 else if incF N (wkR N root).1 1=true then 0 else 8)=8:=if_pos rfl
        rw [fin]
        by_cases b1:tmin x.2.1 x.2.2.1 < -1
        · simp only [qxy,qy0,Dt.eval,decide_eq_true b1,cond_true]
        · by_cases b2 : tmax x.2.1 x.2.2.1 ≥ (N.length : Int)
          · simp only [qxy,qy0,Dt.eval,decide_eq_false b1,decide_eq_true b2,cond_true,cond_false]
          · by_cases b3 : x.1 < 0
            · simp only [qxy,qy0,Dt.eval,decide_eq_false b1,decide_eq_false b2,decide_eq_true b3,cond_true,cond_false]
            · have b4 : x.1 > 65535 := by omega
              simp only [qxy,qy0,Dt.eval,decide_eq_false b1,decide_eq_false b2,decide_eq_false b3,decide_eq_true b4,cond_true,cond_false]
    · have hi : i = N.length := by omega
      subst hi
      rw [List.take_length] at hall
      have hlk:=q36u hall
      have hends:=q35w hlk (2*N.length+1) root [] [] [] hr (fun k hk=>(by cases hk)) List.nodup_nil (fun k hk=>(by cases hk)) (by simp only [List.length_nil];omega)
      obtain ⟨r,hw⟩:=Option.isSome_iff_exists.1 hends
      have hwr:wkR N root=r:=by unfold wkR;rw [hw];rfl
      have ew:=q36a d hlk (by omega) hd hr hw
      rw [List.drop_length,hwr,if_neg (show ¬ ([]:List N3).all (ndP N.length)=false from fun k=>by cases k)]
      simp only [qxq,qy6,qya,qyc,qyg,qwu,Dt.eval,decN hl,cond_false,ew,resW]
      obtain ⟨l,b⟩:=r
      cases b with
      | false=>simp only [Bool.not_false,cond_true,Dt.eval,true_or,if_true]
      | true =>
        by_cases hlen:l.length=N.length
        · have c1 : (((nodL l).length : Int) != (N.length : Int)) = false := by rw [q363, hlen]; exact bne_self_eq_false _
          rw [if_neg (show ¬ (true=false∨l.length≠N.length) from fun k=>k.elim (fun k=>by cases k) (fun k=>k hlen))]
          have hlt:∀ k∈l,k<N.length:=by
            rcases q361 hlk hr (f:=2*N.length+1) (by omega) with ⟨l',h1,_,_,h4,_⟩ | ⟨l',h1,_⟩
            · rw [hw] at h1;injection h1 with h1;injection h1 with h1 _;subst h1;exact h4
            · rw [hw] at h1;injection h1 with h1;injection h1 with _ h1;cases h1
          have eo:=q36s d hlen (by omega) hlt root d 1 (by omega) (Nat.le_refl _)
          simp only [Bool.not_true,cond_false,c1,Dt.eval]
          exact eo
        · have c1 : (((nodL l).length : Int) != (N.length : Int)) = true := by rw [q363, bne_iff_ne]; omega
          rw [if_pos (show true=false∨l.length≠N.length from .inr hlen)]
          simp only [Bool.not_true,cond_false,c1,cond_true,Dt.eval]
theorem q36w (d:Nat) (hd:5000≤d) (root:Int) (N:List N3):qyy d ((root,N,()),())=some (chkT root N):=by
  unfold chkT
  simp only [qyy,qwu,qx0,qx4,qx8,Dt.eval]
  by_cases h1:64<N.length
  · rw [if_pos h1]
    simp only [show decide ((N.length:Int) > 64)=true by rw [decide_eq_true_eq];omega,cond_true,qxc,Dt.eval]
  · rw [if_neg h1]
    simp only [show decide ((N.length:Int) > 64)=false by rw [decide_eq_false_iff_not];omega,cond_false,qxg,qxi,qxm,Dt.eval]
    by_cases h2:root < -1
    · rw [if_pos (.inl h2)]
      simp only [decide_eq_true h2,cond_true,Dt.eval]
    · by_cases h3 : (N.length : Int) ≤ root
      · rw [if_pos (.inr (.inl h3))]
        simp only [decide_eq_false h2,decide_eq_true (show root≥(N.length:Int) from h3),cond_true,cond_false,Dt.eval]
      · have e:(!((decide (root<0)) == (((N.length:Int)) == (0:Int))))=decide ((root<0)≠(N.length=0)):=by
          by_cases a:root<0
          · by_cases b : N.length = 0
            · simp [a,b]
            · have : ((N.length : Int) == 0) = false := by rw [beq_eq_false_iff_ne]; omega
              simp [a,b,this]
          · by_cases b : N.length = 0
            · simp [a,b]
            · have : ((N.length : Int) == 0) = false := by rw [beq_eq_false_iff_ne]; omega
              simp [a,b,this]
        simp only [decide_eq_false h2,decide_eq_false (show ¬ root≥(N.length:Int) from h3),cond_false,Dt.eval,e]
        by_cases h4:(root<0)≠(N.length=0)
        · rw [if_pos (.inr (.inr h4))]
          simp only [decide_eq_true h4,cond_true]
        · rw [if_neg (fun k => k.elim h2 (fun k => k.elim h3 h4))]
          simp only [decide_eq_false h4,cond_false]
          exact q36v d hd (by omega) (by omega) d 0 (by omega) (by omega) rfl
end Go.Proofs.Ytoakhncbmpdacaa

namespace Go.Proofs.Ytoakhncbmpdacaa
open Go Go.Tx Go.Pel
end Go.Proofs.Ytoakhncbmpdacaa

namespace Go.Proofs.Ytoakhncbmpdacaa
open Go Go.Tx Go.Pel
def ptA (P:List N3) (i:Nat):N3:=(P[i]?).getD (0,0,0,())
theorem q370 {P:List N3} {i:Nat} (h:i<P.length):P[i]?=some (ptA P i):=by
  unfold ptA;rw [List.getElem?_eq_getElem h];rfl
theorem q371 {P:List N3} {i:Nat} (h:i<P.length):ptA P i∈P:=List.mem_of_getElem? (q370 h)
def ldB (P:List N3) (n d:Int) (i j:Nat):Bool:=qlx (ofP (ptA P i)) (ofP (ptA P j)) n d
structure FOk (P:List N3):Prop where
  len:P.length≤64
  ok:∀ p∈P,(ofP p).chk=0
  inc:∀ i j,i<j→j<P.length→(ptA P i).1<(ptA P j).1
theorem q372 {P:List N3} {i:Nat} (h:i<P.length):(ptsL P)[i]?=some (ofP (ptA P i)):=by
  unfold ptsL;rw [List.getElem?_map,q370 h];rfl
theorem q373 {P:List N3} (h:qhk (ptsL P)=0):FOk P:=by
  obtain ⟨h1,h2,h3⟩:=qhp h
  have hl:(ptsL P).length=P.length:=List.length_map _
  exact ⟨by omega,fun p hp=>h2 _ (List.mem_map_of_mem hp),fun i j hij hj=>qhj h3 hij (q372 (by omega)) (q372 hj)⟩
section
variable {P:List N3} {n d:Int}
theorem q374 {p q r:Pt} (h:qlx p q n d=true) (k:qlx q r n d=true):qlx p r n d=true:=by
  rw [qtu] at h k ⊢
  generalize p.a*d+p.b*n=x at *
  generalize q.a*d+q.b*n=y at *
  generalize r.a*d+r.b*n=z at *
  omega
theorem q375 {i j k:Nat} (h:ldB P n d i j=true) (g:ldB P n d j k=true):ldB P n d i k=true:=q374 h g
theorem q376 (i:Nat):ldB P n d i i=false:=by
  cases h:ldB P n d i i with
  | false=>rfl
  | true =>
    unfold ldB at h
    rw [qtu] at h
    omega
theorem q377 {i j:Nat} (h:ldB P n d i j=true):ldB P n d j i=false:=by
  cases k:ldB P n d j i with
  | false=>rfl
  | true=>have:=q375 h k;rw [q376] at this;cases this
theorem q378 (hP:FOk P) {i j:Nat} (hi:i<P.length) (hj:j<P.length) (hne:i≠j) (h:ldB P n d i j=false):ldB P n d j i=true:=by
  have hid:(ptA P i).1≠(ptA P j).1:=by
    rcases Nat.lt_or_gt_of_ne hne with h1 | h1
    · have:=hP.inc i j h1 hj;omega
    · have:=hP.inc j i h1 hi;omega
  have h1:=qtx h
  unfold ldB
  rw [qtu]
  have e1:(ofP (ptA P i)).id=(ptA P i).1:=rfl
  have e2:(ofP (ptA P j)).id=(ptA P j).1:=rfl
  rw [e1,e2] at h1 ⊢
  generalize (ofP (ptA P i)).a*d+(ofP (ptA P i)).b*n=x at *
  generalize (ofP (ptA P j)).a*d+(ofP (ptA P j)).b*n=y at *
  omega
end
inductive Gr (P:List N3) (n d:Int) (N:List N3):Int→Nat→Nat→Prop
  | leaf (a b:Nat):b≤a→Gr P n d N (-1) a b
  | node (k a b:Nat) (x:N3):a≤k→k<b→N[k]?=some x→(∀ j,a≤j→j<b→j≠k→ldB P n d k j=true)→Gr P n d N x.2.1 a k→Gr P n d N x.2.2.1 (k+1) b→Gr P n d N (k:Int) a b
section
variable {P:List N3} {n d:Int}
theorem Gr.congr {N M:List N3} {i:Int} {a b:Nat} (h:Gr P n d N i a b):(∀ j,a≤j→j<b→M[j]?=N[j]?)→Gr P n d M i a b:=by
  induction h with
  | leaf a b h=>exact fun _=>.leaf a b h
  | node k a b x h1 h2 h3 h4 _ _ ih1 ih2 =>
    exact fun hM=>.node k a b x h1 h2 (by rw [hM k h1 h2];exact h3) h4 (ih1 fun j g1 g2=>hM j g1 (by omega)) (ih2 fun j g1 g2=>hM j (by omega) g2)
theorem Gr.uniq {N M:List N3} {i:Int} {a b:Nat} (h:Gr P n d N i a b):∀ {j:Int},Gr P n d M j a b→i=j∧∀ k,a≤k→k<b→lfN N k=lfN M k∧rtN N k=rtN M k:=by
  induction h with
  | leaf a b h =>
    intro j g
    cases g with
    | leaf _ _ _=>exact ⟨rfl,fun k h1 h2=>by omega⟩
    | node k _ _ x h1 h2=>omega
  | node k a b x h1 h2 h3 h4 _ _ ih1 ih2 =>
    intro j g
    cases g with
    | leaf _ _ h=>omega
    | node k' _ _ y g1 g2 g3 g4 g5 g6 =>
      have hk:k=k':=by
        rcases Nat.lt_trichotomy k k' with h5 | h5 | h5
        · have e1:=h4 k' g1 g2 (by omega);have e2:=g4 k h1 h2 (by omega);rw [q377 e1] at e2;cases e2
        · exact h5
        · have e1:=h4 k' g1 g2 (by omega);have e2:=g4 k h1 h2 (by omega);rw [q377 e1] at e2;cases e2
      subst hk
      obtain ⟨a1,a2⟩:=ih1 g5
      obtain ⟨b1,b2⟩:=ih2 g6
      refine ⟨rfl,fun m m1 m2=>?_⟩
      rcases Nat.lt_trichotomy m k with h5 | h5 | h5
      · exact a2 m m1 h5
      · subst h5
        unfold lfN rtN
        rw [h3,g3]
        exact ⟨a1,b1⟩
      · exact b2 m (by omega) m2
theorem q379 {a k b:Nat} (h1:a≤k) (h2:k<b):List.range' a (b - a)=List.range' a (k - a)++k :: List.range' (k+1) (b - (k+1)):=by
  have e1:b - a=(k - a)+(b - k):=by omega
  have e2:b - k=(b - (k+1))+1:=by omega
  rw [e1,← List.range'_append_1,e2,List.range'_succ,show a+(k - a)=k by omega]
theorem Gr.tr {N:List N3} {i:Int} {a b:Nat} (h:Gr P n d N i a b):Tr N i (List.range' a (b - a)):=by
  induction h with
  | leaf a b h=>rw [show b - a=0 by omega];exact .leaf _ (by decide)
  | node k a b x h1 h2 h3 h4 _ _ ih1 ih2 =>
    rw [q379 h1 h2]
    exact .node k x _ _ h3 ih1 ih2
end
end Go.Proofs.Ytoakhncbmpdacaa

namespace Go.Proofs.Ytoakhncbmpdacaa
open Go Go.Tx Go.Pel
structure TOk (n dd:Int):Prop where
  hn:i64B n=true
  hd:i64B dd=true
  hr:qeg n dd=0
theorem q37b (d:Nat) {p q:N3} (hp:(ofP p).chk=0) (hq:(ofP q).chk=0) (hi:p.1≠q.1) {n dd:Int} (ht:TOk n dd):qpy d ((p.1,p.2.1,p.2.2.1,()),(q.1,q.2.1,q.2.2.1,()),(n,dd,()),())=some (qlx (ofP p) (ofP q) n dd,0):=by
  rw [qpz _ _ (by unfold qpx;simp only [ht.hn,ht.hd,Bool.and_self])]
  have h:qm8 (ofP p) (ofP q) n dd=0:=qmb ⟨hp,hq,ht.hr⟩ hi
  show some ((qmd (ofP p) (ofP q) n dd).1,(qmd (ofP p) (ofP q) n dd).2)=_
  unfold qmd
  rw [if_pos h]
section
variable {P:List N3} {n dd:Int}
end
end Go.Proofs.Ytoakhncbmpdacaa

namespace Go.Proofs.Ytoakhncbmpdacaa
open Go Go.Tx Go.Pel
def hdI:List Nat→Int
  | []=>-1
  | k :: _=>k
inductive Sp (P:List N3) (n d:Int) (N:List N3) (i:Nat):Nat→List Nat→Prop
  | nil:Sp P n d N i i []
  | cons (k s:Nat) (r:List Nat) (x:N3):s≤k→k<i→N[k]?=some x→(∀ j,s≤j→j<i→j≠k→ldB P n d k j=true)→Gr P n d N x.2.1 s k→x.2.2.1=hdI r→Sp P n d N i (k+1) r→Sp P n d N i s (k :: r)
section
variable {P:List N3} {n d:Int}
theorem Sp.le {N:List N3} {i s:Nat} {es:List Nat} (h:Sp P n d N i s es):s≤i:=by
  cases h with
  | nil=>exact Nat.le_refl _
  | cons k s r x h1 h2=>omega
theorem Sp.lt {N:List N3} {i s:Nat} {es:List Nat} (h:Sp P n d N i s es):∀ k∈es,s≤k∧k<i:=by
  induction h with
  | nil=>exact fun k hk=>by cases hk
  | cons k s r x h1 h2 h3 h4 h5 h6 h7 ih =>
    intro j hj
    rcases List.mem_cons.1 hj with rfl | hj
    · exact ⟨h1,h2⟩
    · have:=ih j hj;omega
theorem Sp.gr {N:List N3} {i s:Nat} {es:List Nat} (h:Sp P n d N i s es):Gr P n d N (hdI es) s i:=by
  induction h with
  | nil=>exact .leaf _ _ (Nat.le_refl _)
  | cons k s r x h1 h2 h3 h4 h5 h6 h7 ih=>exact .node k s i x h1 h2 h3 h4 h5 (by rw [h6];exact ih)
theorem q37j (hP:FOk P) {N N':List N3} {i:Nat} (hi:i<P.length) {ps:List Nat} {y:Int} (hps:∀ k∈ps,ldB P n d k i=false) (hI:N'[i]?=some (y,hdI ps,-1,())):∀ (es:List Nat) (s:Nat),Sp P n d N i s (es++ps)→(∀ k,es.getLast?=some k→ldB P n d k i=true) →
    (∀ j,j<i→(∀ k,es.getLast?=some k→j≠k)→N'[j]?=N[j]?)→(∀ k x,es.getLast?=some k→N[k]?=some x→N'[k]?=some (x.1,x.2.1,(i:Int),()))→Sp P n d N' (i+1) s (es ++ [i])
  | [], s, h, _, hN, _ => by
    have h':Sp P n d N i s ps:=h
    have hN':∀ j,j<i→N'[j]?=N[j]?:=fun j hj=>hN j hj fun k hk=>by cases hk
    refine .cons i s [] _ h'.le (Nat.lt_succ_self _) hI (fun j j1 j2 j3=>?_) (h'.gr.congr fun j j1 j2=>hN' j j2) rfl .nil
    cases h' with
    | nil=>omega
    | cons k _ r x h1 h2 h3 h4 h5 h6 h7 =>
      have hk:=q378 hP (by omega) hi (by omega) (hps k (List.mem_cons_self ..))
      by_cases hjk:j=k
      · subst hjk;exact hk
      · exact q375 hk (h4 j j1 (by omega) hjk)
  | [k], s, h, hl, hN, hL => by
    cases h with
    | cons _ _ _ x h1 h2 h3 h4 h5 h6 h7 =>
      have hN':∀ j,j<i→j≠k→N'[j]?=N[j]?:=fun j hj hne=>hN j hj fun k' hk'=>by injection hk' with hk';rw [← hk'];exact hne
      have hk:=hl k rfl
      refine .cons k s [i] _ h1 (by omega) (hL k x rfl h3) (fun j j1 j2 j3=>?_) (h5.congr fun j j1 j2=>hN' j (by omega) (by omega)) rfl ?_
      · by_cases hji : j = i
        · subst hji;exact hk
        · exact h4 j j1 (by omega) j3
      · have h7' : Sp P n d N i (k + 1) ([] ++ ps) := h7
        -- the rest lies behind k
        have hle:=h7'.le
        refine .cons i (k+1) [] _ hle (Nat.lt_succ_self _) hI (fun j j1 j2 j3=>?_) (h7'.gr.congr fun j j1 j2=>hN' j j2 (by omega)) rfl .nil
        have h8:Sp P n d N i (k+1) ps:=h7
        cases h8 with
        | nil=>omega
        | cons m _ r x' g1 g2 g3 g4 g5 g6 g7 =>
          have hm:=q378 hP (by omega) hi (by omega) (hps m (List.mem_cons_self ..))
          by_cases hjm:j=m
          · subst hjm;exact hm
          · exact q375 hm (g4 j j1 (by omega) hjm)
  | k :: k2 :: r, s, h, hl, hN, hL => by
    have hlast:(k :: k2 :: r).getLast?=(k2 :: r).getLast?:=List.getLast?_cons_cons
    rw [hlast] at hl hN hL
    obtain ⟨e,he⟩:∃ e,(k2 :: r).getLast?=some e:=by
      cases h9:(k2 :: r).getLast? with
      | none=>simp at h9
      | some e=>exact ⟨e,rfl⟩
    have hmem:e∈k2 :: r:=List.mem_of_getLast? he
    cases h with
    | cons _ _ _ x h1 h2 h3 h4 h5 h6 h7 =>
      have h7':Sp P n d N i (k+1) ((k2 :: r)++ps):=h7
      have ha:=h7'.lt e (List.mem_append_left _ hmem)
      have hN':∀ j,j≤k→N'[j]?=N[j]?:=fun j hj=>hN j (by omega) fun k' hk'=>by rw [he] at hk';injection hk' with hk';omega
      have hk:ldB P n d k i=true:=q375 (h4 e (by omega) ha.2 (by omega)) (hl e he)
      refine .cons k s _ x h1 (by omega) (by rw [hN' k (Nat.le_refl _)];exact h3) (fun j j1 j2 j3=>?_) (h5.congr fun j j1 j2=>hN' j (by omega)) h6 (q37j hP hi hps hI (k2 :: r) (k+1) h7' hl hN hL)
      by_cases hji:j=i
      · subst hji;exact hk
      · exact h4 j j1 (by omega) j3
end
theorem q37k {k:Nat} (h:k<1000000):IntKind.wrap .i64 (((k+1:Nat):Int) - 1)=(k:Int):=by rw [IntWalk.i64_in _ (by omega)];omega
section
variable {P:List N3} {n dd:Int}
def laid (N:List N3) (es:List Nat) (i:Nat) (y:N3):List N3 :=
  (match es.getLast? with
    | some k=>N.set k ((ptA N k).1,(ptA N k).2.1,(i:Int),())
    | none=>N) ++ [y]
theorem q37l (N:List N3) (es:List Nat) (i:Nat) (y:N3):(laid N es i y).length=N.length+1:=by
  unfold laid;split<;>simp
theorem q37m {N:List N3} {es:List Nat} {i:Nat} {y:N3} (h:N.length=i):(laid N es i y)[i]?=some y:=by
  unfold laid
  have:(match es.getLast? with | some k=>N.set k ((ptA N k).1,(ptA N k).2.1,(i:Int),()) | none=>N).length=i:=by split<;>simp [h]
  rw [List.getElem?_append_right (by omega),this,Nat.sub_self];rfl
theorem q37n {N:List N3} {es:List Nat} {i:Nat} {y:N3} {j:Nat} (h:j<N.length) (hk:∀ k,es.getLast?=some k→j≠k):(laid N es i y)[j]?=N[j]?:=by
  unfold laid
  split
  · rename_i k hk'
    rw [List.getElem?_append_left (by rw [List.length_set];exact h),List.getElem?_set_ne (Ne.symm (hk k hk'))]
  · rw [List.getElem?_append_left h]
theorem q37o {N:List N3} {es:List Nat} {i:Nat} {y:N3} {k:Nat} {x:N3} (hk:es.getLast?=some k) (hx:N[k]?=some x):(laid N es i y)[k]?=some (x.1,x.2.1,(i:Int),()):=by
  unfold laid
  rw [hk]
  have hlt:=(List.getElem?_eq_some_iff.1 hx).1
  have hp:ptA N k=x:=by unfold ptA;rw [hx];rfl
  simp only
  rw [List.getElem?_append_left (by rw [List.length_set];exact hlt),List.getElem?_set_self hlt,hp]
theorem q37p {N:List N3} {es:List Nat} {i:Nat} {y:N3} {j:Nat} (h:j<N.length):idN (laid N es i y) j=idN N j:=by
  show (((laid N es i y)[j]?).getD (0,0,0,())).1=((N[j]?).getD (0,0,0,())).1
  by_cases hk:es.getLast?=some j
  · have hx := List.getElem?_eq_getElem h
    rw [q37o hk hx,hx];rfl
  · rw [q37n h fun k hk' he=>hk (by rw [hk',he])]
theorem q37q (d:Nat) (hP:FOk P) (ht:TOk n dd) {i:Nat} (hi:i<P.length) {N:List N3} (hN:N.length=i) (root:Int) (self:(List N3×Int×Int×List N3×Int×Int×Int×List N3×Int×List N3×List (Int×Unit))→Option q133):∀ (m f:Nat) (es ps:List Nat),es.length=m→m<f→(∀ k∈es,k<i)→es.length<i+1→(∀ k∈ps,ldB P n dd k i=false) →
    ∃ es2 ps2,es2++ps2=es++ps∧(∀ k∈ps2,ldB P n dd k i=false)∧(∀ k,es2.getLast?=some k→ldB P n dd k i=true) ∧
      iter (q15d d self) f ((i:Int),P,(P.length:Int),(i:Int),P,n,dd,0,[],root,N,nodL es,(ptA P i).1,(ptA P i).2.1,(ptA P i).2.2.1,(ptA P i).1,hdI ps,-1) =
        self (P,(P.length:Int),((i+1:Nat):Int),P,n,dd,0,[],(if es2=[] then (i:Int) else root),laid N es2 i ((ptA P i).1,hdI ps2,-1,()),nodL (es2 ++ [i]))
  | m,0,_,_,_,h,_,_,_=>by omega
  | m, f + 1, es, ps, hm, hf, hes, hlt, hps => by
    have ih:=q37q d hP ht hi hN root self (m - 1) f
    rw [iter]
    revert ih
    generalize iter (q15d d self) f=me
    intro ih
    unfold q15d
    have hlen:=hP.len
    have hw:=q36l (show i<1000000 by omega)
    have hap:apB N.length 1=true:=by unfold apB;rw [Nat.ble_eq];omega
    rcases List.eq_nil_or_concat es with rfl | ⟨es',k,rfl⟩
    · refine ⟨[], ps, rfl, hps, fun k hk => (by cases hk), ?_⟩
      simp only [q14h,q14x,q158,q153,q155,Dt.eval,q363,List.length_nil,show decide (((0:Nat):Int) > 0)=false from rfl,cond_false,q15a,q157,hw,List.length_singleton,hap,cond_true,show apB 0 1=true from rfl]
      rfl
    · rw [List.concat_eq_append] at hm hes hlt ⊢
      have hm1:es'.length+1=m:=by rw [← hm,List.length_append];rfl
      rw [List.length_append,List.length_singleton] at hlt
      have hl1:(nodL (es' ++ [k])).length=es'.length+1:=by rw [q363,List.length_append];rfl
      have hk:k<i:=hes k (List.mem_append_right _ (List.mem_cons_self ..))
      have hkP:k<P.length:=by omega
      have hget:(nodL (es' ++ [k]))[es'.length]?=some ((k:Int),()):=by unfold nodL;rw [List.getElem?_map,List.getElem?_append_right (Nat.le_refl _),Nat.sub_self];rfl
      have hwd:=q37k (show es'.length<1000000 by omega)
      have e1:=q37b d (hP.ok _ (q371 hkP)) (hP.ok _ (q371 hi)) (by have:=hP.inc k i hk hi;omega) ht
      have hpos:decide (((es'.length+1:Nat):Int) > 0)=true:=decide_eq_true (by omega)
      simp only [q14h,q14l,q14p,q14t,q137,Dt.eval,hl1,hpos,cond_true,hwd,inbK (Nat.lt_succ_self es'.length),eltK hget,inbK hkP,eltK (q370 hkP),e1]
      cases hq:qlx (ofP (ptA P k)) (ofP (ptA P i)) n dd with
      | true =>
        have hkN:k<N.length:=by omega
        refine ⟨es' ++ [k],ps,rfl,hps,fun k' hk'=>?_,?_⟩
        · rw [List.getLast?_append] at hk'
          simp at hk';subst hk';exact hq
        · have hap2 : apB (es'.length + 1) 1 = true := by unfold apB; rw [Nat.ble_eq]; omega
          have hlaid:∀ y,laid N (es' ++ [k]) i y=N.set k ((ptA N k).1,(ptA N k).2.1,(i:Int),()) ++ [y]:=fun y=>by
            unfold laid;rw [List.getLast?_append];rfl
          have hnod:nodL ((es' ++ [k]) ++ [i])=nodL (es' ++ [k]) ++ [((i:Int),())]:=by unfold nodL;rw [List.map_append];rfl
          simp only [cond_true,q15a,q14x,q151,q153,q155,Dt.eval,hl1,hpos,hwd,inbK (Nat.lt_succ_self es'.length),eltK hget,inbK hkN,eltK (q370 hkN),q157,List.length_set,hap,hap2,List.length_singleton,hw]
          rw [if_neg (by simp),hlaid,hnod]
          rfl
      | false =>
        obtain ⟨es2,ps2,g1,g2,g3,g4⟩:=ih es' (k :: ps) (by omega) (by omega) (fun k' hk'=>hes k' (List.mem_append_left _ hk')) (by omega) (fun k' hk'=>by
          rcases List.mem_cons.1 hk' with rfl | hk'
          · exact hq
          · exact hps k' hk')
        refine ⟨es2,ps2,by rw [g1];simp,g2,g3,?_⟩
        have htk:List.take es'.length (nodL (es' ++ [k]))=nodL es':=by
          unfold nodL;rw [← List.map_take,List.take_left]
        have hd1:(decide ((0:Int)≤(es'.length:Int))&&decide ((es'.length:Int)≤((es'.length+1:Nat):Int)))=true:=by
          rw [decide_eq_true (by omega),decide_eq_true (by omega)];rfl
        simp only [cond_false,q15b,Dt.eval,hl1,hwd,hd1,cond_true,Int.toNat_natCast,htk]
        exact g4
theorem q37r (d:Nat) (hd:5000≤d) (hP:FOk P) (ht:TOk n dd):∀ (f i:Nat) (N:List N3) (es:List Nat),P.length - i<f→i≤P.length→N.length=i→Sp P n dd N i 0 es→es.length<i+1→(∀ j,j<i→idN N j=(ptA P j).1) →
    ∃ r N',iter (q15g d) f (P,(P.length:Int),(i:Int),P,n,dd,0,[],hdI es,N,nodL es)=some (r,N',0)∧Gr P n dd N' r 0 P.length∧N'.length=P.length∧∀ j,j<P.length→idN N' j=(ptA P j).1
  | 0,i,_,_,h,_,_,_,_,_=>by omega
  | f + 1, i, N, es, hf, hi, hN, hS, hes, hid => by
    have ih:=q37r d hd hP ht f (i+1)
    rw [iter]
    revert ih
    generalize iter (q15g d) f=self
    intro ih
    unfold q15g
    have hlen:=hP.len
    by_cases hl:i<P.length
    · simp only [q145, q149, q14d, Dt.eval, decK hl, cond_true, inbK hl, eltK (q370 hl)]
      obtain ⟨es2,ps2,g1,g2,g3,g4⟩:=q37q d hP ht hl hN (hdI es) self es.length d es [] rfl (by omega) (fun k hk=>(hS.lt k hk).2) hes (fun k hk=>by cases hk)
      rw [List.append_nil] at g1
      have g4':iter (q15d d self) d ((i:Int),P,(P.length:Int),(i:Int),P,n,dd,0,[],hdI es,N,nodL es,(ptA P i).1,(ptA P i).2.1,(ptA P i).2.2.1,(ptA P i).1,-1,-1)=_:=g4
      rw [g4']
      have hnew:=q37j hP hl (N:=N) (N':=laid N es2 i ((ptA P i).1,hdI ps2,-1,())) g2 (q37m hN) es2 0 (by rw [g1];exact hS) g3 (fun j hj hk=>q37n (by omega) hk) (fun k x hk hx=>q37o hk hx)
      have hroot:(if es2=[] then (i:Int) else hdI es)=hdI (es2 ++ [i]):=by
        cases es2 with
        | nil=>rfl
        | cons k r=>rw [if_neg (by simp),← g1];rfl
      rw [hroot]
      have hle2:es2.length≤es.length:=by rw [← g1,List.length_append];omega
      exact ih _ _ (by omega) (by omega) (by rw [q37l,hN]) hnew (by rw [List.length_append,List.length_singleton];omega) (fun j hj=>by
        by_cases hji:j=i
        · subst hji
          show (((laid N es2 j _)[j]?).getD (0,0,0,())).1=_
          rw [q37m hN];rfl
        · rw [q37p (by omega)];exact hid j (by omega))
    · have hie : i = P.length := by omega
      subst hie
      simp only [q145,q15e,Dt.eval,decN hl,cond_false]
      exact ⟨_,N,rfl,hS.gr,hN,hid⟩
theorem q37s (d:Nat) (hd:5000≤d) (P:List N3) {n dd:Int} (hn:i64B n=true) (hdd:i64B dd=true):(qsv (ptsL P) n dd≠0∧q15h d ((P,()),(n,dd,()),())=some (0,[],qsv (ptsL P) n dd)) ∨
    (qsv (ptsL P) n dd=0∧FOk P∧TOk n dd∧∃ r N,q15h d ((P,()),(n,dd,()),())=some (r,N,0)∧Gr P n dd N r 0 P.length∧N.length=P.length∧∀ j,j<P.length→idN N j=(ptA P j).1):=by
  have e1:qqg d ((P,()),())=some (qhk (ptsL P)):=qqh d _ rfl
  have e2:qog d ((n,dd,()),())=some (qeg n dd):=qoh d _ (by unfold qof;simp only [hn,hdd,Bool.and_self])
  have e3:q12z d ((P,()),(n,dd,()),())=some (qsv (ptsL P) n dd):=by
    unfold qsv
    simp only [q12z,q12d,q12j,q12n,q12r,q12v,q12x,Dt.eval,e1,e2]
    by_cases h:qhk (ptsL P)=0
    · simp only [h,show ((0:Int) != 0)=false from rfl,cond_false,if_neg (show ¬ (0:Int)≠0 from fun h=>h rfl)]
    · simp only [show (qhk (ptsL P) != 0)=true from bne_iff_ne.2 h,cond_true,if_pos h]
  by_cases h:qsv (ptsL P) n dd=0
  · refine .inr ⟨h, ?_⟩
    have hf:qhk (ptsL P)=0:=by
      unfold qsv at h
      by_cases k:qhk (ptsL P)=0
      · exact k
      · rw [if_pos k] at h;exact absurd h k
    have hr:qeg n dd=0:=by
      unfold qsv at h
      rw [if_neg (by rw [hf];decide)] at h;exact h
    have hP:=q373 hf
    have hT:TOk n dd:=⟨hn,hdd,hr⟩
    refine ⟨hP,hT,?_⟩
    obtain ⟨r,N,g1,g2⟩:=q37r d hd hP hT d 0 [] [] (by have:=hP.len;omega) (Nat.zero_le _) rfl .nil (by decide) (fun j hj=>absurd hj (Nat.not_lt_zero _))
    refine ⟨r,N,?_,g2⟩
    simp only [q15h,q137,q13d,q13h,q13l,q13t,q13x,q141,Dt.eval,e3,h,show ((0:Int) != 0)=false from rfl,cond_false]
    exact g1
  · refine .inl ⟨h, ?_⟩
    simp only [q15h,q137,q13d,q13h,q13l,q13p,Dt.eval,e3,show (qsv (ptsL P) n dd != 0)=true from bne_iff_ne.2 h,cond_true]
theorem ext3 {N M:List N3} (hl:N.length=M.length) (h:∀ j,j<N.length→idN N j=idN M j∧lfN N j=lfN M j∧rtN N j=rtN M j):N=M:=by
  refine List.ext_getElem hl fun j h1 h2=>?_
  obtain ⟨a,b,c⟩:=h j h1
  unfold idN at a
  unfold lfN at b
  unfold rtN at c
  rw [List.getElem?_eq_getElem h1,List.getElem?_eq_getElem h2] at a b c
  simp only [Option.getD_some] at a b c
  exact Prod.ext a (Prod.ext b (Prod.ext c rfl))
end
end Go.Proofs.Ytoakhncbmpdacaa

namespace Go.Proofs.Ytoakhncbmpdacaa
open Go Go.Tx Go.Pel
structure VT (root:Int) (N:List N3) (l:List Nat):Prop where
  len:N.length≤64
  rt:¬ (root < -1∨(N.length:Int)≤root∨((root<0)≠(N.length=0)))
  all:N.all (ndP N.length)=true
  tr:Tr N root l
  nd:l.Nodup
  ln:l.length=N.length
  inc:incF N l 1=true
theorem VT.lk {root:Int} {N:List N3} {l:List Nat} (h:VT root N l):LkOk N:=q36u h.all
theorem VT.lt {root:Int} {N:List N3} {l:List Nat} (h:VT root N l):∀ k∈l,k<N.length:=h.tr.lt
theorem VT.lkr {root:Int} {N:List N3} {l:List Nat} (h:VT root N l):lkB N root:=by
  have:=h.rt
  unfold lkB
  simp only [not_or] at this
  omega
theorem VT.wk {root:Int} {N:List N3} {l:List Nat} (h:VT root N l):wk N (2*N.length+1) root [] [] []=some (l,true):=by
  rcases q361 h.lk h.lkr (Nat.lt_succ_self (2*N.length)) with ⟨l',h1,h2,_⟩ | ⟨l',_,_,h3⟩
  · rw [h1,h2.uniq h.tr]
  · exact absurd h.nd (h3 l h.tr)
theorem VT.wkE {root:Int} {N:List N3} {l:List Nat} (h:VT root N l):wkR N root=(l,true):=by
  unfold wkR
  rw [h.wk];rfl
theorem VT.chk {root:Int} {N:List N3} {l:List Nat} (h:VT root N l):chkT root N=0:=by
  unfold chkT
  have h1:=h.len
  rw [if_neg (by omega),if_neg h.rt,if_neg (by rw [h.all];decide),h.wkE]
  rw [if_neg (by simp [h.ln]),if_pos h.inc]
theorem q37u {root:Int} {N:List N3} (h:chkT root N=0):∃ l,VT root N l:=by
  unfold chkT at h
  by_cases c1:64<N.length
  · rw [if_pos c1] at h;cases h
  rw [if_neg c1] at h
  by_cases c2:root < -1∨(N.length:Int)≤root∨((root<0)≠(N.length=0))
  · rw [if_pos c2] at h;cases h
  rw [if_neg c2] at h
  by_cases c3:(N.all (ndP N.length))=false
  · rw [if_pos c3] at h;cases h
  rw [if_neg c3] at h
  by_cases c4:(wkR N root).2=false∨(wkR N root).1.length≠N.length
  · rw [if_pos c4] at h;cases h
  rw [if_neg c4] at h
  by_cases c5:incF N (wkR N root).1 1=true
  · have c3' : N.all (ndP N.length) = true := by simpa using c3
    have hr:lkB N root:=by unfold lkB;simp only [not_or] at c2;omega
    rcases q361 (q36u c3') hr (Nat.lt_succ_self (2*N.length)) with ⟨l,h1,h2,h3,h4,_⟩ | ⟨l,h1,_⟩
    · have e : wkR N root = (l, true) := by unfold wkR; rw [h1]; rfl
      rw [e] at c4 c5
      exact ⟨l,by omega,c2,c3',h2,h3,by simpa using c4,c5⟩
    · have e : wkR N root = (l, false) := by unfold wkR; rw [h1]; rfl
      rw [e] at c4
      exact absurd (.inl rfl) c4
  · rw [if_neg c5] at h;cases h
def incL (N:List N3) (l:List Nat):Prop:=l.Pairwise fun p q=>idN N p<idN N q
theorem q37v {N:List N3} {l:List Nat} (h:incF N l 1=true) {j:Nat} (hj:j+1<l.length):idN N ((l[j]?).getD 0)<idN N ((l[j+1]?).getD 0):=by
  unfold incF at h
  rw [List.all_eq_true] at h
  have:=h (j+1) (by rw [List.mem_range'_1];omega)
  simpa using this
theorem q37w {N:List N3} {l:List Nat} (h:incF N l 1=true):incL N l:=by
  have key:∀ i m:Nat,i+m+1<l.length→idN N ((l[i]?).getD 0)<idN N ((l[i+m+1]?).getD 0):=by
    intro i m
    induction m with
    | zero=>exact fun hm=>q37v h hm
    | succ m ih =>
      intro hm
      have h1:=ih (by omega)
      have h2:=q37v h (j:=i+m+1) (by omega)
      rw [show i+(m+1)+1=i+m+1+1 by omega];omega
  unfold incL
  rw [List.pairwise_iff_getElem]
  intro i j hi hj hij
  have:=key i (j - i - 1) (by omega)
  rw [show i+(j - i - 1)+1=j by omega,List.getElem?_eq_getElem hi,List.getElem?_eq_getElem hj] at this
  exact this
theorem q37x {N:List N3} {l:List Nat} (h:incL N l):incF N l 1=true:=by
  unfold incF
  rw [List.all_eq_true]
  intro j hj
  rw [List.mem_range'_1] at hj
  unfold incL at h
  rw [List.pairwise_iff_getElem] at h
  have:=h (j - 1) j (by omega) (by omega) (by omega)
  rw [List.getElem?_eq_getElem (by omega),List.getElem?_eq_getElem (by omega)]
  exact decide_eq_true this
theorem VT.incL {root:Int} {N:List N3} {l:List Nat} (h:VT root N l):incL N l:=q37w h.inc
theorem VT.mem {root:Int} {N:List N3} {l:List Nat} (h:VT root N l) {k:Nat} (hk:k<N.length):k∈l:=by
  by_cases hm:k∈l
  · exact hm
  · exfalso
    have:=q35v N.length (k :: l) (List.nodup_cons.2 ⟨hm,h.nd⟩) (fun j hj=>by
      rcases List.mem_cons.1 hj with rfl | hj
      · exact hk
      · exact h.lt j hj)
    rw [List.length_cons,h.ln] at this;omega
theorem q37y {N:List N3} {k:Nat} {x:N3} (h:N[k]?=some x):idN N k=x.1∧lfN N k=x.2.1∧rtN N k=x.2.2.1:=by
  unfold idN lfN rtN;rw [h];exact ⟨rfl,rfl,rfl⟩
end Go.Proofs.Ytoakhncbmpdacaa

namespace Go.Proofs.Ytoakhncbmpdacaa
open Go Go.Tx Go.Pel
end Go.Proofs.Ytoakhncbmpdacaa
