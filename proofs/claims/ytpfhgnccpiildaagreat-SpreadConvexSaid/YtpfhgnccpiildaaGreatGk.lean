/- Walks of the references; the orders agree; examples. -/
import Derived.Test.YtpfhgnccpiildaaGreatRows
import Derived.ProofKit
import Derived.OpenShut
import Derived.ShutString
import Derived.ChangeOld
import Derived.Deep.Slices
import Derived.Test.YtpfhgnccpiildaaGreatGj
set_option linter.unusedSimpArgs false
set_option linter.unusedVariables false
namespace Go.Proofs.YtpfhgnccpiildaaGreat
open Go Go.Tx Go.Pel
theorem q3ww (n dd:Int):leQ n dd n dd:=Int.le_refl _
theorem q3wx {l:List T3} (hl:l ≠ []) (h:FldOk l) (h0:qfx (ptsL l)=0) {n dd:Int} (hr:qcv n dd=0):chkS l n dd n dd=0:=q3wf (q3rd h h0 hr hr (q3ww n dd)) hl
theorem q3wy (d:Nat) (hf:5000≤d) {l:List T3} (hl:l ≠ []) (h:FldOk l) (h0:qfx (ptsL l)=0) {n dd:Int} (hn:i64B n=true) (hd:i64B dd=true) (hr:qcv n dd=0):q2h9 d ((l,()),(n,dd,()),())=some (slV l n dd,0):=by
  have e:=q3wp d hf l hn hd
  unfold q3wo at e
  rw [if_neg (by simpa using q3wx hl h h0 hr)] at e
  exact e
def trnL (l:List T3):Int→List M4→List Diii
  | _,[]=>[]
  | s,m :: M=>if slV l m.1 m.2.1=s then trnL l s M else (m.1,m.2.1,slV l m.1 m.2.1,()) :: trnL l (slV l m.1 m.2.1) M
theorem q3wz (l:List T3):∀ (M:List M4) (s:Int),(trnL l s M).length≤M.length
  | [],_=>Nat.zero_le _
  | m :: M, s => by
    unfold trnL
    split
    · have:=q3wz l M s;rw [List.length_cons];omega
    · have:=q3wz l M (slV l m.1 m.2.1);rw [List.length_cons,List.length_cons];omega
theorem q3x0 (l:List T3):∀ (M:List M4) (s:Int) (a:Diii),a∈trnL l s M→a.2.2.1=slV l a.1 a.2.1∧∃ m∈M,m.1=a.1∧m.2.1=a.2.1
  | [],_,a,h=>by cases h
  | m :: M, s, a, h => by
    unfold trnL at h
    split at h
    · obtain ⟨h1, x, h2, h3⟩ := q3x0 l M s a h
      exact ⟨h1,x,List.mem_cons_of_mem _ h2,h3⟩
    · rcases List.mem_cons.1 h with e | e
      · rw [e];exact ⟨rfl,m,List.mem_cons_self ..,rfl,rfl⟩
      · obtain ⟨h1, x, h2, h3⟩ := q3x0 l M _ a e
        exact ⟨h1,x,List.mem_cons_of_mem _ h2,h3⟩
theorem q3x1 {k:Nat} (h:k≤100000):IntKind.wrap .i64 (((k+1:Nat):Int) - 1)=(k:Int):=by rw [IntWalk.i64_in _ (by omega)];omega
theorem q3x2 (d:Nat) (hd:5000≤d) {l:List T3} (hl:l ≠ []) (h:FldOk l) (h0:qfx (ptsL l)=0) {L:List M4} (hL:∀ x∈L,okW x) (hlen:L.length≤4096):∀ (f i:Nat) (o:List Diii) (a:Diii),L.length - i<f→i≤L.length→o.length≤i →
    iter (q2iu d) f (L,(L.length:Int),(i:Int),l,o ++ [a])=some ((o ++ [a])++trnL l a.2.2.1 (L.drop i))
  | 0,i,o,a,hf,_,_=>by omega
  | f + 1, i, o, a, hf, hi, ho => by
    have ih:=q3x2 d hd hl h h0 hL hlen f (i+1)
    rw [iter]
    revert ih
    generalize iter (q2iu d) f=self
    intro ih
    have hlo:(o ++ [a]).length=o.length+1:=by rw [List.length_append];rfl
    by_cases hlt:i<L.length
    · obtain ⟨x, hx⟩ : ∃ x, L[i]? = some x := ⟨_, List.getElem?_eq_getElem hlt⟩
      have hxw:=hL x (List.mem_of_getElem? hx)
      have e1:=q3wy d hd hl h h0 hxw.b1 hxw.b2 hxw.ok
      have wi:=q3q6 (show i<1000000 by omega)
      have wl:=q3x1 (k:=o.length) (by omega)
      have b1:inB (o.length:Int) (o ++ [a]).length=true:=q3q8 (by omega)
      have g1:elt ziii (o ++ [a]) ((o.length:Int)).toNat=a:=q3q7 (by rw [List.getElem?_append_right (Nat.le_refl _)];simp)
      rw [q3qb hx]
      unfold q2iu
      simp only [q2i7,q2ib,q2if,q2ij,Dt.eval,q2hh,q3q9 hlt,cond_true,q3q8 hlt,q3q7 hx,e1]
      rw [show IntKind.wrap .i64 (((o ++ [a]).length:Int) - 1)=(o.length:Int) by rw [hlo];exact wl]
      simp only [b1,cond_true,Dt.eval,g1]
      unfold trnL
      by_cases hs:slV l x.1 x.2.1=a.2.2.1
      · rw [if_pos hs, show (slV l x.1 x.2.1 != a.2.2.1) = false by rw [hs]; exact bne_self_eq_false _]
        unfold q2ip
        simp only [cond_false,q2iv,q2hh,q2hn,q2hr,q2hv,q2hz,q2i3,q2i7,q2ib,q2if,q2ij,q2il,q2in,Dt.eval,wi]
        exact ih o a (by omega) (by omega) (by omega)
      · have ha : apB (o ++ [a]).length 1 = true := by unfold apB; rw [Nat.ble_eq]; omega
        rw [if_neg hs,show (slV l x.1 x.2.1 != a.2.2.1)=true by rw [bne_iff_ne];exact hs]
        unfold q2ip
        simp only [cond_true,q2il,q2in,Dt.eval,wi,List.length_cons,List.length_nil,Nat.zero_add,ha]
        have:=ih (o ++ [a]) (x.1,x.2.1,slV l x.1 x.2.1,()) (by omega) (by omega) (by omega)
        rw [List.append_assoc (o ++ [a])] at this
        exact this
    · have hkl : i = L.length := by omega
      unfold q2iu
      simp only [q2i7,q2ib,q2if,q2ij,q2il,q2in,q2is,Dt.eval,q3qa hlt,cond_false]
      rw [hkl,List.drop_length]
      unfold trnL
      rw [List.append_nil]
def q3x3 (l:List T3) (n dd n' dd':Int):List Diii:=trnL l (slV l n dd) (cutM (allM l) n dd n' dd')
def allT (l:List T3) (n dd n' dd':Int):List Diii:=(n,dd,slV l n dd,()) :: q3x3 l n dd n' dd'
def tmU (a:Diii):Dii:=(a.1,a.2.1,())
theorem q3x4 {l:List T3} (h:FldOk l) {n dd n' dd':Int}:∀ x∈cutM (allM l) n dd n' dd',okW x:=fun x hx=>q3px h x (List.mem_of_mem_take (List.mem_of_mem_drop hx))
theorem q3x5 {l:List T3} (h:FldOk l) (n dd n' dd':Int):(q3x3 l n dd n' dd').length≤4096:=by
  have h1:=q3wz l (cutM (allM l) n dd n' dd') (slV l n dd)
  have h2:=q3qw (allM l) n dd n' dd'
  have h3:=q3p9 h
  unfold q3x3;omega
theorem q3x6 {l:List T3} {n dd n' dd':Int} (h:chkS l n dd n' dd'=0):l ≠ []∧FldOk l∧qfx (ptsL l)=0∧qcv n dd=0∧qcv n' dd'=0∧leQ n dd n' dd':=by
  obtain ⟨h1,h2⟩:=q3we h
  obtain ⟨a,b,c,e⟩:=q3qx h1
  exact ⟨h2,a,q3re h1,b,c,e⟩
theorem q3x7 (d:Nat) (hd:5000≤d) {l:List T3} {n dd n' dd':Int} (hn:i64B n=true) (hdd:i64B dd=true) (hn':i64B n'=true) (hd':i64B dd'=true) (h:chkS l n dd n' dd'=0):q2iv d ((l,()),(n,dd,()),(n',dd',()),())=some (allT l n dd n' dd'):=by
  obtain ⟨hl,hok,h0,h1,h2,h3⟩:=q3x6 h
  have e1:=q3wy d hd hl hok h0 hn hdd h1
  have e2:=q3qy d hd l hn hdd hn' hd'
  unfold allV at e2
  rw [if_neg (by simpa using (q3we h).1)] at e2
  have hlen:(cutM (allM l) n dd n' dd').length≤4096:=by have:=q3qw (allM l) n dd n' dd';have:=q3p9 hok;omega
  have e3:=q3x2 d hd hl hok h0 (q3x4 hok) hlen d 0 [] (n,dd,slV l n dd,()) (by omega) (by omega) (Nat.le_refl _)
  simp only [q2iv,q2hh,q2hn,q2hr,q2hv,q2hz,q2i3,Dt.eval,e1,e2]
  exact e3
def q3x8 (l:List T3) (n dd n' dd':Int):List Dii×Int:=if chkS l n dd n' dd'≠0 then ([],chkS l n dd n' dd') else ((q3x3 l n dd n' dd').map tmU,0)
theorem q3x9 (d:Nat) {T:List Diii} (hlen:T.length≤4096):∀ (f i:Nat) (o:List Dii),T.length - i<f→i≤T.length→o.length≤i →
    iter (q2k9 d) f (T,(T.length:Int),(i:Int),o)=some (o++(T.drop i).map tmU,0)
  | 0,i,o,hf,_,_=>by omega
  | f + 1, i, o, hf, hi, ho => by
    have ih:=q3x9 d hlen f (i+1)
    rw [iter]
    revert ih
    generalize iter (q2k9 d) f=self
    intro ih
    unfold q2k9
    by_cases hlt:i<T.length
    · obtain ⟨x, hx⟩ : ∃ x, T[i]? = some x := ⟨_, List.getElem?_eq_getElem hlt⟩
      have wi:=q3q6 (show i<1000000 by omega)
      have ha:apB o.length 1=true:=by unfold apB;rw [Nat.ble_eq];omega
      rw [q3qb hx]
      simp only [q2jx,q2k1,q2k3,q2k5,q2k7,Dt.eval,q3q9 hlt,cond_true,q3q8 hlt,q3q7 hx,List.length_cons,List.length_nil,Nat.zero_add,ha,wi,List.map_cons]
      have:=ih (o ++ [tmU x]) (by omega) (by omega) (by rw [List.length_append];simp;omega)
      rw [List.append_assoc] at this
      exact this
    · have hkl : i = T.length := by omega
      simp only [q2jx,q2k1,q2k3,q2k5,q2k7,Dt.eval,q3qa hlt,cond_false]
      rw [hkl,List.drop_length]
      simp
theorem q3xa (d:Nat) (hd:5000≤d) (l:List T3) {n dd n' dd':Int} (hn:i64B n=true) (hdd:i64B dd=true) (hn':i64B n'=true) (hd':i64B dd'=true):q2ka d ((l,()),(n,dd,()),(n',dd',()),())=some (q3x8 l n dd n' dd'):=by
  have e1:=q3wh d hd l hn hdd hn' hd'
  unfold q3x8
  by_cases h:chkS l n dd n' dd'=0
  · obtain ⟨hl, hok, h0, h1, h2, h3⟩ := q3x6 h
    have e2:=q3x7 d hd hn hdd hn' hd' h
    have hlen:=q3x5 hok n dd n' dd'
    have e3:=q3x9 d hlen d 0 [] (by omega) (by omega) (Nat.le_refl _)
    rw [h] at e1
    rw [if_neg (by simpa using h)]
    have c1:(decide ((0:Int)≤1)&&decide ((1:Int)≤((allT l n dd n' dd').length:Int)))=true:=by
      rw [show (allT l n dd n' dd').length=(q3x3 l n dd n' dd').length+1 from rfl]
      simp only [Bool.and_eq_true,decide_eq_true_eq];omega
    have c2:List.drop (1:Int).toNat (allT l n dd n' dd')=q3x3 l n dd n' dd':=rfl
    simp only [q2ka,q2j3,q2j9,q2jd,q2jh,q2jl,q2jp,q2jt,Dt.eval,e1,show ((0:Int) != 0)=false from rfl,cond_false,e2,c1,cond_true,c2]
    exact e3
  · rw [if_pos h]
    simp only [q2ka,q2j3,q2j9,q2jd,q2jh,q2jl,q2jp,q2jt,Dt.eval,e1,show (chkS l n dd n' dd' != 0)=true by simpa using h,cond_true]
def fstG (l:List T3) (n' dd':Int):List Dii→Int×Int
  | []=>(n',dd')
  | a :: A=>if 0≤slV l a.1 a.2.1 then (a.1,a.2.1) else fstG l n' dd' A
def finV (l:List T3) (t:Int×Int):Int×Int×Int×Int×Int:=if (spV l t.1 t.2).2.2≠0 then (0,0,0,0,(spV l t.1 t.2).2.2) else (t.1,t.2,(spV l t.1 t.2).1,(spV l t.1 t.2).2.1,0)
def q3xe (l:List T3) (n dd n' dd':Int):Int×Int×Int×Int×Int:=if chkS l n dd n' dd'≠0 then (0,0,0,0,chkS l n dd n' dd') else finV l (fstG l n' dd' ((allT l n dd n' dd').map tmU))
def fiN:List Diii→Nat→Int
  | [],_=>-1
  | a :: A,i=>if a.2.2.1≥0 then (i:Int) else fiN A (i+1)
theorem q3xf (d:Nat) {A:List Diii} (hlen:A.length≤5000):∀ (f i:Nat),A.length - i<f→i≤A.length →
    iter (q2lw d) f (A,((0:Int),()),(A.length:Int),(i:Int))=some (fiN (A.drop i) i)
  | 0,i,hf,_=>by omega
  | f + 1, i, hf, hi => by
    have ih:=q3xf d hlen f (i+1)
    rw [iter]
    revert ih
    generalize iter (q2lw d) f=self
    intro ih
    unfold q2lw
    by_cases hlt:i<A.length
    · obtain ⟨x, hx⟩ : ∃ x, A[i]? = some x := ⟨_, List.getElem?_eq_getElem hlt⟩
      have wi:=q3q6 (show i<1000000 by omega)
      have e1:q2ku d ((x.1,x.2.1,x.2.2.1,()),((0:Int),()),())=some (decide (x.2.2.1≥0)):=by
        simp only [q2ku,q2ki,q2ko,q2ks,Dt.eval]
      rw [q3qb hx]
      unfold fiN
      by_cases hs:x.2.2.1≥0
      · rw [if_pos hs]
        rw [decide_eq_true hs] at e1
        simp only [q2le,q2li,q2lm,q2lq,q2ls,q2lu,Dt.eval,q2l2,q3q9 hlt,cond_true,q3q8 hlt,q3q7 hx,e1]
      · rw [if_neg hs]
        rw [decide_eq_false hs] at e1
        simp only [q2le,q2li,q2lm,q2lq,q2ls,q2lu,Dt.eval,q2l2,q3q9 hlt,cond_true,q3q8 hlt,q3q7 hx,e1,cond_false,wi]
        exact ih (by omega) (by omega)
    · have hkl : i = A.length := by omega
      simp only [q2le,q2li,q2lm,q2lq,q2ls,q2lu,Dt.eval,q2l2,q3qa hlt,cond_false]
      rw [hkl,List.drop_length]
      unfold fiN
      rfl
theorem q3xg {l:List T3} {n' dd':Int}:∀ (A:List Diii) (i:Nat),(∀ a∈A,a.2.2.1=slV l a.1 a.2.1) →
    (∃ (k:Nat) (a:Diii),fiN A i=((i+k:Nat):Int)∧A[k]?=some a∧fstG l n' dd' (A.map tmU)=(a.1,a.2.1))∨(fiN A i=-1∧fstG l n' dd' (A.map tmU)=(n',dd'))
  | [],i,_=>.inr ⟨rfl,rfl⟩
  | a :: A, i, h => by
    have ha:=h a (List.mem_cons_self ..)
    unfold fiN
    rw [List.map_cons]
    unfold fstG
    by_cases hs:a.2.2.1≥0
    · rw [if_pos hs]
      refine .inl ⟨0,a,rfl,rfl,?_⟩
      rw [if_pos (show 0≤slV l (tmU a).1 (tmU a).2.1 by rw [ha] at hs;exact hs)];rfl
    · rw [if_neg hs, if_neg (show ¬ 0 ≤ slV l (tmU a).1 (tmU a).2.1 by rw [ha] at hs; exact hs)]
      rcases q3xg A (i+1) (fun b hb=>h b (List.mem_cons_of_mem _ hb)) with ⟨k,b,h1,h2,h3⟩ | h1
      · refine .inl ⟨k + 1, b, ?_, h2, h3⟩
        rw [h1];congr 1;omega
      · exact .inr h1
theorem q3xh (l:List T3) (n dd n' dd':Int):∀ a∈allT l n dd n' dd',a.2.2.1=slV l a.1 a.2.1:=by
  intro a ha
  rcases List.mem_cons.1 ha with e | e
  · rw [e]
  · exact (q3x0 l _ _ a e).1
structure okQ (n dd:Int):Prop where
  b1:i64B n=true
  b2:i64B dd=true
  ok:qcv n dd=0
theorem q3xi {l:List T3} (h:FldOk l) {n dd n' dd':Int} (hq:okQ n dd):∀ a∈allT l n dd n' dd',okQ a.1 a.2.1:=by
  intro a ha
  rcases List.mem_cons.1 ha with e | e
  · rw [e];exact hq
  · obtain ⟨_, m, hm, e1, e2⟩ := q3x0 l _ _ a e
    have:=q3x4 h m hm
    rw [← e1,← e2];exact ⟨this.b1,this.b2,this.ok⟩
theorem q3xj {l:List T3} {n' dd':Int} (hq:okQ n' dd'):∀ (A:List Dii),(∀ a∈A,okQ a.1 a.2.1)→okQ (fstG l n' dd' A).1 (fstG l n' dd' A).2
  | [],_=>hq
  | a :: A, h => by
    unfold fstG
    split
    · exact h a (List.mem_cons_self ..)
    · exact q3xj hq A fun b hb=>h b (List.mem_cons_of_mem _ hb)
theorem q3xk (d:Nat) (hd:5000≤d) (l:List T3) {t:Int×Int} (hq:okQ t.1 t.2):q2nt d (l,0,0,0,0,t.1,t.2)=some (finV l t):=by
  have e1:=q3wu d hd l hq.b1 hq.b2
  unfold q2nt finV
  generalize spV l t.1 t.2=r at *
  obtain ⟨x,y,e⟩:=r
  by_cases h:e=0
  · subst h
    simp only [q2nj,q2nn,q2np,q2nr,Dt.eval,q2m5,e1,show ((0:Int) != 0)=false from rfl,cond_false,ne_eq,not_true_eq_false,if_false]
  · simp only [q2nj,q2nn,q2np,q2nr,Dt.eval,q2m5,e1,show (e != 0)=true by simpa using h,cond_true,ne_eq,h,not_false_eq_true,if_true]
theorem q3xl (d:Nat) (hd:5000≤d) (l:List T3) {n dd n' dd':Int} (hn:i64B n=true) (hdd:i64B dd=true) (hn':i64B n'=true) (hd':i64B dd'=true):q2nu d ((l,()),(n,dd,()),(n',dd',()),())=some (q3xe l n dd n' dd'):=by
  have e1:=q3wh d hd l hn hdd hn' hd'
  unfold q3xe
  by_cases h:chkS l n dd n' dd'=0
  · obtain ⟨hl, hok, h0, h1, h2, h3⟩ := q3x6 h
    have e2:=q3x7 d hd hn hdd hn' hd' h
    have hq:=q3xj (l:=l) ⟨hn',hd',h2⟩ ((allT l n dd n' dd').map tmU) (fun a ha=>by
      obtain ⟨b,hb,rfl⟩:=List.mem_map.1 ha
      exact q3xi hok ⟨hn,hdd,h1⟩ b hb)
    have hsl:=q3xh l n dd n' dd'
    have hlen:(allT l n dd n' dd').length≤4097:=by
      have:=q3x5 hok n dd n' dd'
      show (q3x3 l n dd n' dd').length+1≤_;omega
    generalize allT l n dd n' dd'=A at *
    have e3:q2lx d ((A,()),(((0:Int),()),()),())=some (fiN A 0):=by
      have:=q3xf d (A:=A) (by omega) d 0 (by omega) (by omega)
      simp only [q2lx,q2l2,q2l6,q2la,Dt.eval]
      exact this
    rw [h] at e1
    rw [if_neg (by simpa using h)]
    have e4:=q3xk d hd l hq
    rcases q3xg (l:=l) (n':=n') (dd':=dd') A 0 hsl with ⟨k,a,f1,f2,f3⟩ | ⟨f1,f2⟩
    · rw [Nat.zero_add] at f1
      rw [f1] at e3
      rw [f3] at e4
      rw [f3]
      have c1:decide ((k:Int)≥0)=true:=decide_eq_true (by omega)
      have c2:=q3q8 (List.getElem?_eq_some_iff.1 f2).1
      have c3:=q3q7 (z:=ziii) f2
      simp only [q2nu,q2m5,q2mb,q2mf,q2mj,q2mn,q2mr,q2mv,q2mz,q2n3,q2n7,q2nb,q2nf,Dt.eval,e1,show ((0:Int) != 0)=false from rfl,cond_false,e2,e3,c1,c2,c3,cond_true]
      exact e4
    · rw [f1] at e3
      rw [f2] at e4
      rw [f2]
      have c1:decide ((-1:Int)≥0)=false:=rfl
      simp only [q2nu,q2m5,q2mb,q2mf,q2mj,q2mn,q2mr,q2mv,q2mz,q2n3,q2n7,q2nb,q2nf,Dt.eval,e1,show ((0:Int) != 0)=false from rfl,cond_false,e2,e3,c1]
      exact e4
  · rw [if_pos h]
    simp only [q2nu,q2m5,q2mb,q2mf,q2mj,q2mn,q2mr,q2mv,q2mz,q2n3,q2n7,q2nb,q2nf,Dt.eval,e1,show (chkS l n dd n' dd' != 0)=true by simpa using h,cond_true]
theorem q3xm (l:List T3) (n' dd':Int) (a:Dii) (A:List Dii):fstG l n' dd' (a :: A)=if 0≤slV l a.1 a.2.1 then (a.1,a.2.1) else fstG l n' dd' A:=rfl
end Go.Proofs.YtpfhgnccpiildaaGreat

namespace Go.Proofs.YtpfhgnccpiildaaGreat
open Go Go.Tx Go.Pel
def q3xp (l:List T3):Prop:=l.length≤1000∧(l.length≤64→l.length≤16)
theorem q3xq (d:Nat) (l:List T3):∃ g,q38r d ((l,()),())=some g∧(g=false→q3xp l):=by
  simp only [q38r,q38f,q38l,q38p,Dt.eval]
  by_cases h1:(l.length:Int) > 16
  · rw [decide_eq_true h1, cond_true]
    by_cases h2:(l.length:Int)≤64
    · rw [decide_eq_true h2, cond_true]
      exact ⟨true,rfl,fun h=>by cases h⟩
    · rw [decide_eq_false h2, cond_false]
      refine ⟨_,rfl,fun h=>?_⟩
      have:=of_decide_eq_false h
      exact ⟨by omega,by omega⟩
  · rw [decide_eq_false h1, cond_false]
    refine ⟨_,rfl,fun h=>?_⟩
    have:=of_decide_eq_false h
    exact ⟨by omega,by omega⟩
end Go.Proofs.YtpfhgnccpiildaaGreat

namespace Go
open Go.ChangeShapes Go.WideShapes Go.ChangeAt Go.RowKit
section
variable {H:Type} {enc:TypeId×Value→H} {P:Program} {w:World} {base:Nat} {spare:Nat→Bool} {held:Bool}
theorem q3xx {t:TypeId} {fs:Array Field} {fuel:Nat} {cs:List Value} {x:DataW H×List MemPlace} (hs:P.underlying t=some (.struct fs)) (h:DataW.trod enc P w base spare held fuel t cs=some x)
    {i:Nat} {f:Field} (hf:fs[i]?=some f) {off n:Nat} {ft:TypeId} (ho:f.offset=off) (ht:f.type=ft) (hn:P.cellsOf ft=n):∃ m y,DataW.trod enc P w base spare held m ft ((cs.drop off).take n)=some y:=by
  obtain ⟨xs,m,_,_,_,hlen,hg⟩:=DataW.trod_struct hs h
  have h1:=hg i f hf
  subst ho ht hn
  have hi:i<xs.length:=by rw [hlen];exact (Array.getElem?_eq_some_iff.1 hf).1
  exact ⟨m,xs[i],by rw [h1,List.getElem?_eq_getElem hi]⟩
theorem q3xy {t:TypeId} {k:IntKind} {fuel:Nat} {cs:List Value} {x:DataW H×List MemPlace} (ht:P.underlying t=some (.int k)) (h:DataW.trod enc P w base spare held fuel t cs=some x):∃ n,cs=[.int k n]∧(Lit.int k n).wf=true:=by
  obtain ⟨n,h1,_,h2⟩:=DataW.trod_int ht h;exact ⟨n,h1,h2⟩
theorem q3xz {n:Int} (h:(Lit.int .i64 n).wf=true):-9223372036854775808≤n∧n≤9223372036854775807:=bounds_i64 h
end
end Go
namespace Go.Proofs.YtpfhgnccpiildaaGreat
open Go.ChangeShapes Go.WideShapes Go.ChangeAt Go.RowKit
theorem q3y3:ownKnob Tryz.prog.godebug=none:=by kernel_rfl
theorem q3y4:laidOutB Tryz.prog=true:=by kernel_rfl
end Go.Proofs.YtpfhgnccpiildaaGreat

namespace Go
open Go.ChangeShapes Go.WideShapes Go.ChangeAt Go.RowKit Go.Deep
theorem q3y5 {α:Type} {p:Nat→α→Prop}:∀ n:Nat,(∀ i,i<n→∃ v,p i v)→∃ l:List α,l.length=n∧∀ (i:Nat) (x:α),l[i]?=some x→p i x
  | 0,_=>⟨[],rfl,fun i x h=>by simp at h⟩
  | n + 1, h => by
    obtain ⟨l,hl,hp⟩:=q3y5 n fun i hi=>h i (by omega)
    obtain ⟨v,hv⟩:=h n (by omega)
    refine ⟨l ++ [v],by simp [hl],fun i x hx=>?_⟩
    rcases Nat.lt_or_ge i n with hi | hi
    · rw [List.getElem?_append_left (by omega)] at hx;exact hp i x hx
    · rw [List.getElem?_append_right (by omega)] at hx
      have:i=n:=by
        have:=(List.getElem?_eq_some_iff.1 hx).1
        simp at this;omega
      subst this
      simp [hl] at hx
      subst hx;exact hv
theorem qd {α:Type} {cells:α→List Value} {k:Nat} (hk:∀ a,(cells a).length=k) (h0:0<k):∀ (l:List α) (j:Nat) (u:Value),(l.flatMap cells)[j]?=some u→∃ x,l[j / k]?=some x∧(cells x)[j % k]?=some u
  | [],j,u,h=>by simp at h
  | x :: l, j, u, h => by
    rw [List.flatMap_cons] at h
    rcases Nat.lt_or_ge j k with hj | hj
    · rw [List.getElem?_append_left (by rw [hk]; exact hj)] at h
      rw [Nat.div_eq_of_lt hj,Nat.mod_eq_of_lt hj]
      exact ⟨x,rfl,h⟩
    · rw [List.getElem?_append_right (by rw [hk]; exact hj), hk] at h
      obtain ⟨y,hy,hu⟩:=qd hk h0 l (j - k) u h
      obtain ⟨m,rfl⟩:∃ m,j=m+k:=⟨j - k,by omega⟩
      rw [Nat.add_sub_cancel] at hy hu
      rw [Nat.add_div_right _ h0,Nat.add_mod_right]
      exact ⟨y,by simpa using hy,hu⟩
theorem q9 {α:Type} {cells:α→List Value} {k:Nat} (hk:∀ a,(cells a).length=k) (l:List α):(l.flatMap cells).length=l.length*k:=by
  induction l with
  | nil=>simp
  | cons x l ih=>rw [List.flatMap_cons,List.length_append,ih,hk,List.length_cons,Nat.add_mul];omega
section
variable {H:Type} {enc:TypeId×Value→H} {P:Program} {w:World} {base:Nat} {held:Bool}
theorem q3y6 {t e:TypeId} {fuel:Nat} {A:Option Addr} {n c:Nat} {x:DataW H×List MemPlace} (ht:P.underlying t=some (.slice e))
    (h:DataW.trod enc P w base (fun _=>true) held fuel t [Value.slice A n c]=some x):A=none→c=0:=by
  rcases open_slice ht h with ⟨hcs,_⟩ | ⟨a,len,cap,m,q,D,Pl,hcs,_⟩
  · simp only [List.cons.injEq, and_true] at hcs
    injection hcs with h1 h2 h3
    intro _;exact h3
  · simp only [List.cons.injEq, and_true] at hcs
    injection hcs with h1 h2 h3
    subst h1;intro h;cases h
theorem q3y7 {α:Type} (cells:α→List Value) (ok:α→Prop) {t e:TypeId} {k fuel:Nat} {A:Option Addr} {n c:Nat} {x:DataW H×List MemPlace}
    (ht:P.underlying t=some (.slice e)) (hC:P.cellsOf e=k) (h0:0<k) (hk:∀ a,(cells a).length=k)
    (hR:∀ (m:Nat) (l:List Value) (y:DataW H×List MemPlace),DataW.trod enc P w base (fun _=>true) held m e l=some y→l.length=k→∃ a,l=cells a∧ok a)
    (h:DataW.trod enc P w base (fun _=>true) held fuel t [Value.slice A n c]=some x) :
    ∃ l:List α,l.length=n∧Sl w k A l.length c (l.flatMap cells)∧(∀ a∈l,ok a)∧(A=none→c=0)∧c≤maxLen:=by
  rcases open_slice ht h with ⟨hcs,_⟩ | ⟨a,len,cap,m,q,D,Pl,hcs,_,hl,hmx,hm,_,hi⟩
  · simp only [List.cons.injEq, and_true] at hcs
    injection hcs with h1 h2 h3
    subst h1 h2 h3
    exact ⟨[],rfl,Sl.nil_ _ _ _ _,(fun _ h=>by cases h),(fun _=>rfl),Nat.zero_le _⟩
  · simp only [List.cons.injEq, and_true] at hcs
    injection hcs with h1 h2 h3
    subst h1 h2 h3
    simp only [if_true] at hm
    subst hm
    obtain ⟨l,hll,hp⟩:=q3y5 (α:=α) (p:=fun i v=>(∀ j u,(cells v)[j]?=some u→w.cell? (a.add (i*k+j))=some u)∧ok v) n (fun i hin=>by
      obtain ⟨cs',hc,ht'⟩:=hi i (by omega)
      rw [hC] at hc
      obtain ⟨_,hcl,hat⟩:=World.cells?_some hc
      obtain ⟨v,rfl,hv⟩:=hR _ _ _ ht' hcl
      refine ⟨v,fun j u hu=>?_,hv⟩
      have hj:j<k:=by rw [← hk v];exact (List.getElem?_eq_some_iff.1 hu).1
      rw [← Go.Deep.add_add,hat j hj,hu])
    refine ⟨l,hll,⟨by omega,by rw [q9 hk,hll],fun hn=>?_⟩,fun v hv=>?_,(fun h=>by cases h),hmx⟩
    · obtain ⟨v0, hv0⟩ : ∃ v, l[0]? = some v := ⟨_, List.getElem?_eq_getElem (by omega)⟩
      obtain ⟨u0,hu0⟩:∃ u,(cells v0)[0]?=some u:=⟨_,List.getElem?_eq_getElem (by rw [hk];exact h0)⟩
      have hc0:=(hp 0 v0 hv0).1 0 u0 hu0
      obtain ⟨b,o,spot⟩:=a
      have hspot:spot=none:=by simpa [Addr.add] using World.cell?_spot hc0
      subst hspot
      refine ⟨b,o,rfl,?_,fun j u hu=>?_⟩
      · have hb := World.block_lt_of_cell? w _ hc0
        simpa [Addr.add] using hb
      · obtain ⟨v, hv, huv⟩ := qd hk h0 l j u hu
        have h1:=(hp _ v hv).1 _ u huv
        have e0:j / k*k+j % k=j:=by rw [Nat.mul_comm];exact Nat.div_add_mod j k
        rw [e0] at h1
        have e1:(⟨b,o,none⟩:Addr).add j=⟨b,o+j,none⟩:=by
          unfold Addr.add;split
          · rename_i h0;rw [h0];rfl
          · rfl
        rw [e1] at h1;exact h1
    · obtain ⟨i, hi'⟩ := List.getElem?_of_mem hv
      exact (hp i v hi').2
end
end Go

namespace Go.Proofs.YtpfhgnccpiildaaGreat
open Go.ChangeShapes Go.WideShapes Go.ChangeAt Go.RowKit Go.Pel Go.Deep
theorem q3y8 {α:Type} (l:List α) (h:l.length=1):∃ a,l=[a]:=by
  match l,h with
  | [a],_=>exact ⟨a,rfl⟩
theorem q3y9 {α:Type} (l:List α) (h:l.length=2):∃ a b,l=[a,b]:=by
  match l,h with
  | [a,b],_=>exact ⟨a,b,rfl⟩
theorem q3ya {α:Type} (l:List α) (h:l.length=3):∃ a b c,l=[a,b,c]:=by
  match l,h with
  | [a,b,c],_=>exact ⟨a,b,c,rfl⟩
section
variable {H:Type} {enc:TypeId×Value→H} {w:World} {base:Nat} {spare:Nat→Bool} {held:Bool}
theorem q3yb:Tryz.prog.cellsOf 3=1:=by kernel_rfl
theorem q3yc:Tryz.prog.cellsOf 2=1:=by kernel_rfl
theorem q3yd:Tryz.prog.cellsOf 79=3:=by kernel_rfl
theorem q3ye:Tryz.prog.cellsOf 24=1:=by kernel_rfl
theorem q3yf:Tryz.prog.cellsOf 22=1:=by kernel_rfl
theorem q3yg {fuel:Nat} {l:List Value} {x:DataW H×List MemPlace} (h:DataW.trod enc Tryz.prog w base spare held fuel 79 l=some x) (hl:l.length=3) :
    ∃ p:Pt,l=[.int .i64 p.id,.int .i64 p.a,.int .i64 p.b]∧p.Fits:=by
  obtain ⟨c0,c1,c2,rfl⟩:=q3ya l hl
  obtain ⟨m4,y4,h4⟩:=q3xx Tryz.underlying79 h (i:=0) rfl rfl rfl q3yb
  obtain ⟨m5,y5,h5⟩:=q3xx Tryz.underlying79 h (i:=1) rfl rfl rfl q3yc
  obtain ⟨m6,y6,h6⟩:=q3xx Tryz.underlying79 h (i:=2) rfl rfl rfl q3yc
  obtain ⟨i,e4,w4⟩:=q3xy Tryz.underlying3 h4
  obtain ⟨a,e5,w5⟩:=q3xy Tryz.underlying2 h5
  obtain ⟨b,e6,w6⟩:=q3xy Tryz.underlying2 h6
  simp at e4 e5 e6
  subst e4 e5 e6
  exact ⟨⟨i,a,b⟩,rfl,⟨q3xz w4,q3xz w5,q3xz w6⟩⟩
theorem q3yh (fuel:Nat) (l:List Value) (x:DataW H×List MemPlace) (h:DataW.trod enc Tryz.prog w base spare held fuel 79 l=some x) (hl:l.length=3):∃ p:Pt,l=p.cells∧p.Fits:=q3yg h hl
theorem q3yi {fuel:Nat} {l:List Value} {x:DataW H×List MemPlace} (h:DataW.trod enc Tryz.prog w base (fun _=>true) held fuel 24 l=some x) (hl:l.length=1) :
    ∃ (A:Option Addr) (c:Nat) (m:List Pt),l=[.slice A m.length c]∧Sl w 3 A m.length c (vp m)∧(A=none→c=0)∧∀ p∈m,p.Fits:=by
  obtain ⟨c0,rfl⟩:=q3y8 l hl
  obtain ⟨m0,y0,h0⟩:=q3xx Tryz.underlying24 h (i:=0) rfl rfl rfl q3yf
  have h0':DataW.trod enc Tryz.prog w base (fun _=>true) held m0 22 [c0]=some y0:=by simpa using h0
  obtain ⟨A,n,c,rfl⟩:∃ A n c,c0=Value.slice A n c:=by
    rcases open_slice Tryz.underlying22 h0' with ⟨hcs,_⟩ | ⟨a,len,cap,m,q,D,Pl,hcs,_⟩
    · simp only [List.cons.injEq,and_true] at hcs;exact ⟨_,_,_,hcs⟩
    · simp only [List.cons.injEq,and_true] at hcs;exact ⟨_,_,_,hcs⟩
  have hn:=q3y6 Tryz.underlying22 h0'
  obtain ⟨pts,rfl,hs,hok,_,_⟩:=q3y7 Pt.cells Pt.Fits Tryz.underlying22 q3yd (by decide) (fun _=>rfl) q3yh h0'
  exact ⟨A,c,pts,rfl,hs,hn,hok⟩
theorem q3yj:Tryz.prog.cellsOf 26=2:=by kernel_rfl
theorem q3yk {fuel:Nat} {l:List Value} {x:DataW H×List MemPlace} (h:DataW.trod enc Tryz.prog w base spare held fuel 26 l=some x) (hl:l.length=2) :
    ∃ n d:Int,l=[.int .i64 n,.int .i64 d]∧(-9223372036854775808≤n∧n≤9223372036854775807)∧(-9223372036854775808≤d∧d≤9223372036854775807):=by
  obtain ⟨c0,c1,rfl⟩:=q3y9 l hl
  obtain ⟨m4,y4,h4⟩:=q3xx Tryz.underlying26 h (i:=0) rfl rfl rfl q3yc
  obtain ⟨m5,y5,h5⟩:=q3xx Tryz.underlying26 h (i:=1) rfl rfl rfl q3yc
  obtain ⟨n,e4,w4⟩:=q3xy Tryz.underlying2 h4
  obtain ⟨d,e5,w5⟩:=q3xy Tryz.underlying2 h5
  simp at e4 e5
  subst e4 e5
  exact ⟨n,d,rfl,q3xz w4,q3xz w5⟩
end
end Go.Proofs.YtpfhgnccpiildaaGreat
