/- Walks of the references; the orders agree; examples. -/
import Derived.Test.YtpfhgnccpiildaaGreatRows
import Derived.ProofKit
import Derived.OpenShut
import Derived.ShutString
import Derived.ChangeOld
import Derived.Deep.Slices
import Derived.Test.YtpfhgnccpiildaaGreatGj
set_option linter.unusedSimpArgs false
set_option linter.unusedVariables false
namespace Go.Proofs.YtpfhgnccpiildaaGreat
open Go Go.Tx Go.Pel
theorem q3x5 (n dd:Int):leQ n dd n dd:=Int.le_refl _
theorem q3x6 {l:List T3} (hl:l ≠ []) (h:FldOk l) (h0:qg3 (ptsL l)=0) {n dd:Int} (hr:qd0 n dd=0):chkS l n dd n dd=0:=q3wo (q3rm h h0 hr hr (q3x5 n dd)) hl
theorem q3x7 (d:Nat) (hf:5000≤d) {l:List T3} (hl:l ≠ []) (h:FldOk l) (h0:qg3 (ptsL l)=0) {n dd:Int} (hn:i64B n=true) (hd:i64B dd=true) (hr:qd0 n dd=0):q2hi d ((l,()),(n,dd,()),())=some (slV l n dd,0):=by
  have e:=q3wy d hf l hn hd
  unfold q3wx at e
  rw [if_neg (by simpa using q3x6 hl h h0 hr)] at e
  exact e
def trnL (l:List T3):Int→List M4→List Diii
  | _,[]=>[]
  | s,m :: M=>if slV l m.1 m.2.1=s then trnL l s M else (m.1,m.2.1,slV l m.1 m.2.1,()) :: trnL l (slV l m.1 m.2.1) M
theorem q3x8 (l:List T3):∀ (M:List M4) (s:Int),(trnL l s M).length≤M.length
  | [],_=>Nat.zero_le _
  | m :: M, s => by
    unfold trnL
    split
    · have:=q3x8 l M s;rw [List.length_cons];omega
    · have:=q3x8 l M (slV l m.1 m.2.1);rw [List.length_cons,List.length_cons];omega
theorem q3x9 (l:List T3):∀ (M:List M4) (s:Int) (a:Diii),a∈trnL l s M→a.2.2.1=slV l a.1 a.2.1∧∃ m∈M,m.1=a.1∧m.2.1=a.2.1
  | [],_,a,h=>by cases h
  | m :: M, s, a, h => by
    unfold trnL at h
    split at h
    · obtain ⟨h1, x, h2, h3⟩ := q3x9 l M s a h
      exact ⟨h1,x,List.mem_cons_of_mem _ h2,h3⟩
    · rcases List.mem_cons.1 h with e | e
      · rw [e];exact ⟨rfl,m,List.mem_cons_self ..,rfl,rfl⟩
      · obtain ⟨h1, x, h2, h3⟩ := q3x9 l M _ a e
        exact ⟨h1,x,List.mem_cons_of_mem _ h2,h3⟩
theorem q3xa {k:Nat} (h:k≤100000):IntKind.wrap .i64 (((k+1:Nat):Int) - 1)=(k:Int):=by rw [IntWalk.i64_in _ (by omega)];omega
theorem q3xb (d:Nat) (hd:5000≤d) {l:List T3} (hl:l ≠ []) (h:FldOk l) (h0:qg3 (ptsL l)=0) {L:List M4} (hL:∀ x∈L,okW x) (hlen:L.length≤4096):∀ (f i:Nat) (o:List Diii) (a:Diii),L.length - i<f→i≤L.length→o.length≤i →
    iter (q2j3 d) f (L,(L.length:Int),(i:Int),l,o ++ [a])=some ((o ++ [a])++trnL l a.2.2.1 (L.drop i))
  | 0,i,o,a,hf,_,_=>by omega
  | f + 1, i, o, a, hf, hi, ho => by
    have ih:=q3xb d hd hl h h0 hL hlen f (i+1)
    rw [iter]
    revert ih
    generalize iter (q2j3 d) f=self
    intro ih
    have hlo:(o ++ [a]).length=o.length+1:=by rw [List.length_append];rfl
    by_cases hlt:i<L.length
    · obtain ⟨x, hx⟩ : ∃ x, L[i]? = some x := ⟨_, List.getElem?_eq_getElem hlt⟩
      have hxw:=hL x (List.mem_of_getElem? hx)
      have e1:=q3x7 d hd hl h h0 hxw.b1 hxw.b2 hxw.ok
      have wi:=q3qf (show i<1000000 by omega)
      have wl:=q3xa (k:=o.length) (by omega)
      have b1:inB (o.length:Int) (o ++ [a]).length=true:=q3qh (by omega)
      have g1:elt ziii (o ++ [a]) ((o.length:Int)).toNat=a:=q3qg (by rw [List.getElem?_append_right (Nat.le_refl _)];simp)
      rw [q3qk hx]
      unfold q2j3
      simp only [q2ig,q2ik,q2io,q2is,Dt.eval,q2hq,q3qi hlt,cond_true,q3qh hlt,q3qg hx,e1]
      rw [show IntKind.wrap .i64 (((o ++ [a]).length:Int) - 1)=(o.length:Int) by rw [hlo];exact wl]
      simp only [b1,cond_true,Dt.eval,g1]
      unfold trnL
      by_cases hs:slV l x.1 x.2.1=a.2.2.1
      · rw [if_pos hs, show (slV l x.1 x.2.1 != a.2.2.1) = false by rw [hs]; exact bne_self_eq_false _]
        unfold q2iy
        simp only [cond_false,q2j4,q2hq,q2hw,q2i0,q2i4,q2i8,q2ic,q2ig,q2ik,q2io,q2is,q2iu,q2iw,Dt.eval,wi]
        exact ih o a (by omega) (by omega) (by omega)
      · have ha : apB (o ++ [a]).length 1 = true := by unfold apB; rw [Nat.ble_eq]; omega
        rw [if_neg hs,show (slV l x.1 x.2.1!=a.2.2.1)=true by rw [bne_iff_ne];exact hs]
        unfold q2iy
        simp only [cond_true,q2iu,q2iw,Dt.eval,wi,List.length_cons,List.length_nil,Nat.zero_add,ha]
        have:=ih (o ++ [a]) (x.1,x.2.1,slV l x.1 x.2.1,()) (by omega) (by omega) (by omega)
        rw [List.append_assoc (o ++ [a])] at this
        exact this
    · have hkl : i = L.length := by omega
      unfold q2j3
      simp only [q2ig,q2ik,q2io,q2is,q2iu,q2iw,q2j1,Dt.eval,q3qj hlt,cond_false]
      rw [hkl,List.drop_length]
      unfold trnL
      rw [List.append_nil]
def q3xc (l:List T3) (n dd n' dd':Int):List Diii:=trnL l (slV l n dd) (cutM (allM l) n dd n' dd')
def allT (l:List T3) (n dd n' dd':Int):List Diii:=(n,dd,slV l n dd,()) :: q3xc l n dd n' dd'
def tmU (a:Diii):Dii:=(a.1,a.2.1,())
theorem q3xd {l:List T3} (h:FldOk l) {n dd n' dd':Int}:∀ x∈cutM (allM l) n dd n' dd',okW x:=fun x hx=>q3q6 h x (List.mem_of_mem_take (List.mem_of_mem_drop hx))
theorem q3xe {l:List T3} (h:FldOk l) (n dd n' dd':Int):(q3xc l n dd n' dd').length≤4096:=by
  have h1:=q3x8 l (cutM (allM l) n dd n' dd') (slV l n dd)
  have h2:=q3r5 (allM l) n dd n' dd'
  have h3:=q3pi h
  unfold q3xc;omega
theorem q3xf {l:List T3} {n dd n' dd':Int} (h:chkS l n dd n' dd'=0):l ≠ []∧FldOk l∧qg3 (ptsL l)=0∧qd0 n dd=0∧qd0 n' dd'=0∧leQ n dd n' dd':=by
  obtain ⟨h1,h2⟩:=q3wn h
  obtain ⟨a,b,c,e⟩:=q3r6 h1
  exact ⟨h2,a,q3rn h1,b,c,e⟩
theorem q3xg (d:Nat) (hd:5000≤d) {l:List T3} {n dd n' dd':Int} (hn:i64B n=true) (hdd:i64B dd=true) (hn':i64B n'=true) (hd':i64B dd'=true) (h:chkS l n dd n' dd'=0):q2j4 d ((l,()),(n,dd,()),(n',dd',()),())=some (allT l n dd n' dd'):=by
  obtain ⟨hl,hok,h0,h1,h2,h3⟩:=q3xf h
  have e1:=q3x7 d hd hl hok h0 hn hdd h1
  have e2:=q3r7 d hd l hn hdd hn' hd'
  unfold allV at e2
  rw [if_neg (by simpa using (q3wn h).1)] at e2
  have hlen:(cutM (allM l) n dd n' dd').length≤4096:=by have:=q3r5 (allM l) n dd n' dd';have:=q3pi hok;omega
  have e3:=q3xb d hd hl hok h0 (q3xd hok) hlen d 0 [] (n,dd,slV l n dd,()) (by omega) (by omega) (Nat.le_refl _)
  simp only [q2j4,q2hq,q2hw,q2i0,q2i4,q2i8,q2ic,Dt.eval,e1,e2]
  exact e3
def q3xh (l:List T3) (n dd n' dd':Int):List Dii×Int:=if chkS l n dd n' dd'≠0 then ([],chkS l n dd n' dd') else ((q3xc l n dd n' dd').map tmU,0)
theorem q3xi (d:Nat) {T:List Diii} (hlen:T.length≤4096):∀ (f i:Nat) (o:List Dii),T.length - i<f→i≤T.length→o.length≤i →
    iter (q2ki d) f (T,(T.length:Int),(i:Int),o)=some (o++(T.drop i).map tmU,0)
  | 0,i,o,hf,_,_=>by omega
  | f + 1, i, o, hf, hi, ho => by
    have ih:=q3xi d hlen f (i+1)
    rw [iter]
    revert ih
    generalize iter (q2ki d) f=self
    intro ih
    unfold q2ki
    by_cases hlt:i<T.length
    · obtain ⟨x, hx⟩ : ∃ x, T[i]? = some x := ⟨_, List.getElem?_eq_getElem hlt⟩
      have wi:=q3qf (show i<1000000 by omega)
      have ha:apB o.length 1=true:=by unfold apB;rw [Nat.ble_eq];omega
      rw [q3qk hx]
      simp only [q2k6,q2ka,q2kc,q2ke,q2kg,Dt.eval,q3qi hlt,cond_true,q3qh hlt,q3qg hx,List.length_cons,List.length_nil,Nat.zero_add,ha,wi,List.map_cons]
      have:=ih (o ++ [tmU x]) (by omega) (by omega) (by rw [List.length_append];simp;omega)
      rw [List.append_assoc] at this
      exact this
    · have hkl : i = T.length := by omega
      simp only [q2k6,q2ka,q2kc,q2ke,q2kg,Dt.eval,q3qj hlt,cond_false]
      rw [hkl,List.drop_length]
      simp
theorem q3xj (d:Nat) (hd:5000≤d) (l:List T3) {n dd n' dd':Int} (hn:i64B n=true) (hdd:i64B dd=true) (hn':i64B n'=true) (hd':i64B dd'=true):q2kj d ((l,()),(n,dd,()),(n',dd',()),())=some (q3xh l n dd n' dd'):=by
  have e1:=q3wq d hd l hn hdd hn' hd'
  unfold q3xh
  by_cases h:chkS l n dd n' dd'=0
  · obtain ⟨hl, hok, h0, h1, h2, h3⟩ := q3xf h
    have e2:=q3xg d hd hn hdd hn' hd' h
    have hlen:=q3xe hok n dd n' dd'
    have e3:=q3xi d hlen d 0 [] (by omega) (by omega) (Nat.le_refl _)
    rw [h] at e1
    rw [if_neg (by simpa using h)]
    have c1:(decide ((0:Int)≤1)&&decide ((1:Int)≤((allT l n dd n' dd').length:Int)))=true:=by
      rw [show (allT l n dd n' dd').length=(q3xc l n dd n' dd').length+1 from rfl]
      simp only [Bool.and_eq_true,decide_eq_true_eq];omega
    have c2:List.drop (1:Int).toNat (allT l n dd n' dd')=q3xc l n dd n' dd':=rfl
    simp only [q2kj,q2jc,q2ji,q2jm,q2jq,q2ju,q2jy,q2k2,Dt.eval,e1,show ((0:Int)!=0)=false from rfl,cond_false,e2,c1,cond_true,c2]
    exact e3
  · rw [if_pos h]
    simp only [q2kj,q2jc,q2ji,q2jm,q2jq,q2ju,q2jy,q2k2,Dt.eval,e1,show (chkS l n dd n' dd'!=0)=true by simpa using h,cond_true]
theorem q3xk (d:Nat) {l:List T3} (hl:l ≠ []) (h:FldOk l) (h0:qg3 (ptsL l)=0) {L:List M4} (hL:∀ x∈L,okW x) (hlen:L.length≤4096):∀ (f i:Nat) (s:Int) (o:List Dii),L.length - i<f→i≤L.length→o.length≤i →
    iter (q34d d) f (s,(i:Int),l,o,L)=some (o++(trnL l s (L.drop i)).map tmU)
  | 0,i,s,o,hf,_,_=>by omega
  | f + 1, i, s, o, hf, hi, ho => by
    have ih:=q3xk d hl h h0 hL hlen f (i+1)
    rw [iter]
    revert ih
    generalize iter (q34d d) f=self
    intro ih
    unfold q34d q348
    by_cases hlt:i<L.length
    · obtain ⟨x, hx⟩ : ∃ x, L[i]? = some x := ⟨_, List.getElem?_eq_getElem hlt⟩
      have hxw:=hL x (List.mem_of_getElem? hx)
      have e1:=q3wz d hl h h0 hxw.b1 hxw.b2 hxw.ok
      have wi:=q3qf (show i<1000000 by omega)
      have ha:apB o.length 1=true:=by unfold apB;rw [Nat.ble_eq];omega
      rw [q3qk hx]
      unfold trnL
      by_cases hs:slV l x.1 x.2.1=s
      · have hb : (slV l x.1 x.2.1 != s) = false := by rw [hs]; exact bne_self_eq_false _
        rw [if_pos hs]
        simp only [q33q,q346,q33u,q33y,q342,q344,q34b,Dt.eval,q330,q3qi hlt,cond_true,q3qh hlt,q3qg hx,e1,hb,cond_false,wi]
        exact ih s o (by omega) (by omega) (by omega)
      · have hb : (slV l x.1 x.2.1 != s) = true := by rw [bne_iff_ne]; exact hs
        rw [if_neg hs]
        simp only [q33q,q346,q33u,q33y,q342,q344,q34b,Dt.eval,q330,q3qi hlt,cond_true,q3qh hlt,q3qg hx,e1,hb,wi,List.length_cons,List.length_nil,Nat.zero_add,ha,List.map_cons]
        have:=ih (slV l x.1 x.2.1) (o ++ [(x.1,x.2.1,())]) (by omega) (by omega) (by rw [List.length_append];simp;omega)
        rw [List.append_assoc] at this
        exact this
    · have hkl : i = L.length := by omega
      simp only [q33q,q346,q33u,q33y,q342,q344,q34b,Dt.eval,q330,q3qj hlt,cond_false]
      rw [hkl,List.drop_length]
      unfold trnL
      simp
theorem q3xl (d:Nat) (hd:5000≤d) {l:List T3} {n dd n' dd':Int} (hn:i64B n=true) (hdd:i64B dd=true) (hn':i64B n'=true) (hd':i64B dd'=true) (h:chkS l n dd n' dd'=0):q34e d ((l,()),(n,dd,()),(n',dd',()),())=some ((q3xc l n dd n' dd').map tmU):=by
  obtain ⟨hl,hok,h0,h1,h2,h3⟩:=q3xf h
  have e1:=q3wz d hl hok h0 hn hdd h1
  have e2:=q3rb d hd hok hn hdd hn' hd' h1 h2 h3
  have hlen:(cutM (allM l) n dd n' dd').length≤4096:=by have:=q3r5 (allM l) n dd n' dd';have:=q3pi hok;omega
  have e3:=q3xk d hl hok h0 (q3xd hok) hlen d 0 (slV l n dd) [] (by omega) (by omega) (Nat.le_refl _)
  simp only [q34e,q330,q336,q33a,q33e,q33i,q33m,Dt.eval,e1,e2]
  exact e3
theorem q3xm (d:Nat) (hd:5000≤d) (l:List T3) {n dd n' dd':Int} (hn:i64B n=true) (hdd:i64B dd=true) (hn':i64B n'=true) (hd':i64B dd'=true):q358 d ((l,()),(n,dd,()),(n',dd',()),())=some (q3xh l n dd n' dd'):=by
  have e1:=q3wr d l hn hdd hn' hd'
  unfold q3xh
  by_cases h:chkS l n dd n' dd'=0
  · have e2 := q3xl d hd hn hdd hn' hd' h
    rw [h] at e1
    rw [if_neg (by simpa using h)]
    simp only [q358,q34m,q34s,q34w,q350,q354,q356,Dt.eval,e1,show ((0:Int)!=0)=false from rfl,cond_false,e2]
  · rw [if_pos h]
    simp only [q358,q34m,q34s,q34w,q350,q354,q356,Dt.eval,e1,show (chkS l n dd n' dd'!=0)=true by simpa using h,cond_true]
def fstG (l:List T3) (n' dd':Int):List Dii→Int×Int
  | []=>(n',dd')
  | a :: A=>if 0≤slV l a.1 a.2.1 then (a.1,a.2.1) else fstG l n' dd' A
def finV (l:List T3) (t:Int×Int):Int×Int×Int×Int×Int:=if (spV l t.1 t.2).2.2≠0 then (0,0,0,0,(spV l t.1 t.2).2.2) else (t.1,t.2,(spV l t.1 t.2).1,(spV l t.1 t.2).2.1,0)
def q3xn (l:List T3) (n dd n' dd':Int):Int×Int×Int×Int×Int:=if chkS l n dd n' dd'≠0 then (0,0,0,0,chkS l n dd n' dd') else finV l (fstG l n' dd' ((allT l n dd n' dd').map tmU))
def fiN:List Diii→Nat→Int
  | [],_=>-1
  | a :: A,i=>if a.2.2.1≥0 then (i:Int) else fiN A (i+1)
theorem q3xo (d:Nat) {A:List Diii} (hlen:A.length≤5000):∀ (f i:Nat),A.length - i<f→i≤A.length →
    iter (q2m5 d) f (A,((0:Int),()),(A.length:Int),(i:Int))=some (fiN (A.drop i) i)
  | 0,i,hf,_=>by omega
  | f + 1, i, hf, hi => by
    have ih:=q3xo d hlen f (i+1)
    rw [iter]
    revert ih
    generalize iter (q2m5 d) f=self
    intro ih
    unfold q2m5
    by_cases hlt:i<A.length
    · obtain ⟨x, hx⟩ : ∃ x, A[i]? = some x := ⟨_, List.getElem?_eq_getElem hlt⟩
      have wi:=q3qf (show i<1000000 by omega)
      have e1:q2l3 d ((x.1,x.2.1,x.2.2.1,()),((0:Int),()),())=some (decide (x.2.2.1≥0)):=by
        simp only [q2l3,q2kr,q2kx,q2l1,Dt.eval]
      rw [q3qk hx]
      unfold fiN
      by_cases hs:x.2.2.1≥0
      · rw [if_pos hs]
        rw [decide_eq_true hs] at e1
        simp only [q2ln,q2lr,q2lv,q2lz,q2m1,q2m3,Dt.eval,q2lb,q3qi hlt,cond_true,q3qh hlt,q3qg hx,e1]
      · rw [if_neg hs]
        rw [decide_eq_false hs] at e1
        simp only [q2ln,q2lr,q2lv,q2lz,q2m1,q2m3,Dt.eval,q2lb,q3qi hlt,cond_true,q3qh hlt,q3qg hx,e1,cond_false,wi]
        exact ih (by omega) (by omega)
    · have hkl : i = A.length := by omega
      simp only [q2ln,q2lr,q2lv,q2lz,q2m1,q2m3,Dt.eval,q2lb,q3qj hlt,cond_false]
      rw [hkl,List.drop_length]
      unfold fiN
      rfl
theorem q3xp {l:List T3} {n' dd':Int}:∀ (A:List Diii) (i:Nat),(∀ a∈A,a.2.2.1=slV l a.1 a.2.1) →
    (∃ (k:Nat) (a:Diii),fiN A i=((i+k:Nat):Int)∧A[k]?=some a∧fstG l n' dd' (A.map tmU)=(a.1,a.2.1))∨(fiN A i=-1∧fstG l n' dd' (A.map tmU)=(n',dd'))
  | [],i,_=>.inr ⟨rfl,rfl⟩
  | a :: A, i, h => by
    have ha:=h a (List.mem_cons_self ..)
    unfold fiN
    rw [List.map_cons]
    unfold fstG
    by_cases hs:a.2.2.1≥0
    · rw [if_pos hs]
      refine .inl ⟨0,a,rfl,rfl,?_⟩
      rw [if_pos (show 0≤slV l (tmU a).1 (tmU a).2.1 by rw [ha] at hs;exact hs)];rfl
    · rw [if_neg hs, if_neg (show ¬ 0 ≤ slV l (tmU a).1 (tmU a).2.1 by rw [ha] at hs; exact hs)]
      rcases q3xp A (i+1) (fun b hb=>h b (List.mem_cons_of_mem _ hb)) with ⟨k,b,h1,h2,h3⟩ | h1
      · refine .inl ⟨k + 1, b, ?_, h2, h3⟩
        rw [h1];congr 1;omega
      · exact .inr h1
theorem q3xq (l:List T3) (n dd n' dd':Int):∀ a∈allT l n dd n' dd',a.2.2.1=slV l a.1 a.2.1:=by
  intro a ha
  rcases List.mem_cons.1 ha with e | e
  · rw [e]
  · exact (q3x9 l _ _ a e).1
structure okQ (n dd:Int):Prop where
  b1:i64B n=true
  b2:i64B dd=true
  ok:qd0 n dd=0
theorem q3xr {l:List T3} (h:FldOk l) {n dd n' dd':Int} (hq:okQ n dd):∀ a∈allT l n dd n' dd',okQ a.1 a.2.1:=by
  intro a ha
  rcases List.mem_cons.1 ha with e | e
  · rw [e];exact hq
  · obtain ⟨_, m, hm, e1, e2⟩ := q3x9 l _ _ a e
    have:=q3xd h m hm
    rw [← e1,← e2];exact ⟨this.b1,this.b2,this.ok⟩
theorem q3xs {l:List T3} {n' dd':Int} (hq:okQ n' dd'):∀ (A:List Dii),(∀ a∈A,okQ a.1 a.2.1)→okQ (fstG l n' dd' A).1 (fstG l n' dd' A).2
  | [],_=>hq
  | a :: A, h => by
    unfold fstG
    split
    · exact h a (List.mem_cons_self ..)
    · exact q3xs hq A fun b hb=>h b (List.mem_cons_of_mem _ hb)
theorem q3xt (d:Nat) (hd:5000≤d) (l:List T3) {t:Int×Int} (hq:okQ t.1 t.2):q2o2 d (l,0,0,0,0,t.1,t.2)=some (finV l t):=by
  have e1:=q3x3 d hd l hq.b1 hq.b2
  unfold q2o2 finV
  generalize spV l t.1 t.2=r at *
  obtain ⟨x,y,e⟩:=r
  by_cases h:e=0
  · subst h
    simp only [q2ns,q2nw,q2ny,q2o0,Dt.eval,q2me,e1,show ((0:Int)!=0)=false from rfl,cond_false,ne_eq,not_true_eq_false,if_false]
  · simp only [q2ns,q2nw,q2ny,q2o0,Dt.eval,q2me,e1,show (e!=0)=true by simpa using h,cond_true,ne_eq,h,not_false_eq_true,if_true]
theorem q3xu (d:Nat) (hd:5000≤d) (l:List T3) {n dd n' dd':Int} (hn:i64B n=true) (hdd:i64B dd=true) (hn':i64B n'=true) (hd':i64B dd'=true):q2o3 d ((l,()),(n,dd,()),(n',dd',()),())=some (q3xn l n dd n' dd'):=by
  have e1:=q3wq d hd l hn hdd hn' hd'
  unfold q3xn
  by_cases h:chkS l n dd n' dd'=0
  · obtain ⟨hl, hok, h0, h1, h2, h3⟩ := q3xf h
    have e2:=q3xg d hd hn hdd hn' hd' h
    have hq:=q3xs (l:=l) ⟨hn',hd',h2⟩ ((allT l n dd n' dd').map tmU) (fun a ha=>by
      obtain ⟨b,hb,rfl⟩:=List.mem_map.1 ha
      exact q3xr hok ⟨hn,hdd,h1⟩ b hb)
    have hsl:=q3xq l n dd n' dd'
    have hlen:(allT l n dd n' dd').length≤4097:=by
      have:=q3xe hok n dd n' dd'
      show (q3xc l n dd n' dd').length+1≤_;omega
    generalize allT l n dd n' dd'=A at *
    have e3:q2m6 d ((A,()),(((0:Int),()),()),())=some (fiN A 0):=by
      have:=q3xo d (A:=A) (by omega) d 0 (by omega) (by omega)
      simp only [q2m6,q2lb,q2lf,q2lj,Dt.eval]
      exact this
    rw [h] at e1
    rw [if_neg (by simpa using h)]
    have e4:=q3xt d hd l hq
    rcases q3xp (l:=l) (n':=n') (dd':=dd') A 0 hsl with ⟨k,a,f1,f2,f3⟩ | ⟨f1,f2⟩
    · rw [Nat.zero_add] at f1
      rw [f1] at e3
      rw [f3] at e4
      rw [f3]
      have c1:decide ((k:Int)≥0)=true:=decide_eq_true (by omega)
      have c2:=q3qh (List.getElem?_eq_some_iff.1 f2).1
      have c3:=q3qg (z:=ziii) f2
      simp only [q2o3,q2me,q2mk,q2mo,q2ms,q2mw,q2n0,q2n4,q2n8,q2nc,q2ng,q2nk,q2no,Dt.eval,e1,show ((0:Int)!=0)=false from rfl,cond_false,e2,e3,c1,c2,c3,cond_true]
      exact e4
    · rw [f1] at e3
      rw [f2] at e4
      rw [f2]
      have c1:decide ((-1:Int)≥0)=false:=rfl
      simp only [q2o3,q2me,q2mk,q2mo,q2ms,q2mw,q2n0,q2n4,q2n8,q2nc,q2ng,q2nk,q2no,Dt.eval,e1,show ((0:Int)!=0)=false from rfl,cond_false,e2,e3,c1]
      exact e4
  · rw [if_pos h]
    simp only [q2o3,q2me,q2mk,q2mo,q2ms,q2mw,q2n0,q2n4,q2n8,q2nc,q2ng,q2nk,q2no,Dt.eval,e1,show (chkS l n dd n' dd'!=0)=true by simpa using h,cond_true]
theorem q3xv (l:List T3) (n' dd':Int) (a:Dii) (A:List Dii):fstG l n' dd' (a :: A)=if 0≤slV l a.1 a.2.1 then (a.1,a.2.1) else fstG l n' dd' A:=rfl
theorem q3xw (d:Nat) (hd:5000≤d) {l:List T3} (hl:l ≠ []) (h:FldOk l) (h0:qg3 (ptsL l)=0) {A:List Dii} (hA:∀ a∈A,okQ a.1 a.2.1) (hlen:A.length≤4999) {n' dd':Int} (hq:okQ n' dd'):∀ (f i:Nat),i<f→i≤A.length →
    iter (q371 d) f ((i:Int) - 1,l,0,0,0,0,A,(fstG l n' dd' (A.drop i)).1,(fstG l n' dd' (A.drop i)).2)=some (finV l (fstG l n' dd' A))
  | 0,i,hf,_=>by omega
  | f + 1, 0, hf, hi => by
    rw [List.drop_zero]
    have hok:=q3xs (l:=l) hq A hA
    generalize fstG l n' dd' A=t at *
    have e1:=q3x4 d (by omega) l hok.b1 hok.b2
    rw [iter]
    generalize iter (q371 d) f=self
    unfold q371 finV
    generalize spV l t.1 t.2=r at *
    obtain ⟨x,y,e⟩:=r
    have c0:decide (((0:Nat):Int) - 1≥0)=false:=rfl
    by_cases h:e=0
    · subst h
      simp only [q36e,q36m,q36i,q36k,q36r,q36v,q36x,q36z,Dt.eval,q35g,c0,e1,show ((0:Int)!=0)=false from rfl,cond_false,ne_eq,not_true_eq_false,if_false]
    · simp only [q36e,q36m,q36i,q36k,q36r,q36v,q36x,q36z,Dt.eval,q35g,c0,e1,show (e!=0)=true by simpa using h,cond_true,cond_false,ne_eq,h,not_false_eq_true,if_true]
  | f + 1, i + 1, hf, hi => by
    have ih:=q3xw d hd hl h h0 hA hlen hq f i (by omega) (by omega)
    rw [iter]
    revert ih
    generalize iter (q371 d) f=self
    intro ih
    have hlt:i<A.length:=by omega
    obtain ⟨x,hx⟩:∃ x,A[i]?=some x:=⟨_,List.getElem?_eq_getElem hlt⟩
    have hxw:=hA x (List.mem_of_getElem? hx)
    have e1:=q3wz d hl h h0 hxw.b1 hxw.b2 hxw.ok
    rw [q3qk hx] at ih
    rw [q3xv] at ih
    unfold q371 q36o
    have hi1:((i+1:Nat):Int) - 1=(i:Int):=by omega
    have c0:decide ((i:Int)≥0)=true:=decide_eq_true (by omega)
    have wi:IntKind.wrap .i64 ((i:Int) - 1)=(i:Int) - 1:=IntWalk.i64_in _ (by omega)
    rw [hi1]
    by_cases hs:0≤slV l x.1 x.2.1
    · rw [if_pos hs] at ih
      have c1:decide (slV l x.1 x.2.1≥0)=true:=decide_eq_true hs
      simp only [q36e,q36m,q36i,q36k,q36r,q36v,q36x,q36z,Dt.eval,q35g,c0,cond_true,q3qh hlt,q3qg hx,e1,c1,wi]
      exact ih
    · rw [if_neg hs] at ih
      have c1:decide (slV l x.1 x.2.1≥0)=false:=decide_eq_false hs
      simp only [q36e,q36m,q36i,q36k,q36r,q36v,q36x,q36z,Dt.eval,q35g,c0,cond_true,q3qh hlt,q3qg hx,e1,c1,wi,cond_false]
      exact ih
theorem q3xx (d:Nat) (hd:5000≤d) (l:List T3) {n dd n' dd':Int} (hn:i64B n=true) (hdd:i64B dd=true) (hn':i64B n'=true) (hd':i64B dd'=true):q372 d ((l,()),(n,dd,()),(n',dd',()),())=some (q3xn l n dd n' dd'):=by
  have e1:=q3wr d l hn hdd hn' hd'
  unfold q3xn
  by_cases h:chkS l n dd n' dd'=0
  · obtain ⟨hl, hok, h0, h1, h2, h3⟩ := q3xf h
    have e2:=q3xl d hd hn hdd hn' hd' h
    rw [h] at e1
    rw [if_neg (by simpa using h)]
    have hlen:((q3xc l n dd n' dd').map tmU).length≤4096:=by
      rw [List.length_map];exact q3xe hok n dd n' dd'
    have hA:∀ a∈(allT l n dd n' dd').map tmU,okQ a.1 a.2.1:=fun a ha=>by
      obtain ⟨b,hb,rfl⟩:=List.mem_map.1 ha
      exact q3xr hok ⟨hn,hdd,h1⟩ b hb
    have he:(allT l n dd n' dd').map tmU=[(n,dd,())] ++ (q3xc l n dd n' dd').map tmU:=rfl
    have hAl:((allT l n dd n' dd').map tmU).length≤4999:=by rw [he,List.length_append,List.length_singleton];omega
    have e3:=q3xw d hd hl hok h0 hA hAl ⟨hn',hd',h2⟩ d ((allT l n dd n' dd').map tmU).length (by omega) (Nat.le_refl _)
    rw [List.drop_length] at e3
    have wi:IntKind.wrap .i64 ((([(n,dd,())] ++ (q3xc l n dd n' dd').map tmU).length:Int) - 1)=(([(n,dd,())] ++ (q3xc l n dd n' dd').map tmU).length:Int) - 1:=by
      rw [← he];exact IntWalk.i64_in _ (by omega)
    have ha:apB (List.length ([(n,dd,())]:List Dii)) ((q3xc l n dd n' dd').map tmU).length=true:=by unfold apB;rw [Nat.ble_eq,List.length_singleton];omega
    rw [he] at e3 ⊢
    simp only [q372,q35g,q35m,q35q,q35u,q35y,q362,q366,q36a,Dt.eval,e1,show ((0:Int)!=0)=false from rfl,cond_false,e2,ha,cond_true,wi]
    exact e3
  · rw [if_pos h]
    simp only [q372,q35g,q35m,q35q,q35u,q35y,q362,q366,q36a,Dt.eval,e1,show (chkS l n dd n' dd'!=0)=true by simpa using h,cond_true]
end Go.Proofs.YtpfhgnccpiildaaGreat

namespace Go.Proofs.YtpfhgnccpiildaaGreat
open Go Go.Tx Go.Pel
def q3xy (l:List T3):Prop:=l.length≤1000∧(l.length≤64→l.length≤16)
theorem q3xz (d:Nat) (l:List T3):∃ g,q390 d ((l,()),())=some g∧(g=false→q3xy l):=by
  simp only [q390,q38o,q38u,q38y,Dt.eval]
  by_cases h1:(l.length:Int) > 16
  · rw [decide_eq_true h1, cond_true]
    by_cases h2:(l.length:Int)≤64
    · rw [decide_eq_true h2, cond_true]
      exact ⟨true,rfl,fun h=>by cases h⟩
    · rw [decide_eq_false h2, cond_false]
      refine ⟨_,rfl,fun h=>?_⟩
      have:=of_decide_eq_false h
      exact ⟨by omega,by omega⟩
  · rw [decide_eq_false h1, cond_false]
    refine ⟨_,rfl,fun h=>?_⟩
    have:=of_decide_eq_false h
    exact ⟨by omega,by omega⟩
theorem q3y0 (d:Nat) {l:List T3} (hl:l.length≤1000):qqc d ((l,()),())=some l:=by
  rw [qqd _ _ (by unfold qqb;rw [decide_eq_true_eq];show (ptsL l).length≤_;rw [qir];omega)]
  exact congrArg some (q3rh l)
theorem q3y1 (d:Nat) {l:List T3} (hl:l.length≤1000):qql d ((l,()),(l,()),())=some true:=by
  rw [qqm _ _ (by unfold qqk;simp only [Bool.and_eq_true,decide_eq_true_eq];show (ptsL l).length≤_∧(ptsL l).length≤_;rw [qir];omega)]
  exact congrArg some (decide_eq_true rfl)
theorem q3y2 (d:Nat) {L:List Dii} (hlen:L.length≤4096):∀ (f i:Nat),L.length - i<f→i≤L.length→iter (q386 d) f (L,L,(i:Int))=some true
  | 0,i,hf,_=>by omega
  | f + 1, i, hf, hi => by
    have ih:=q3y2 d hlen f (i+1)
    rw [iter]
    revert ih
    generalize iter (q386 d) f=self
    intro ih
    unfold q386
    simp only [q37u,q382,q37y,q380,q384,Dt.eval]
    by_cases hlt:i<L.length
    · simp only [q3qi hlt, cond_true, q3qh hlt, beq_self_eq_true, Bool.and_self, Bool.not_true, cond_false, q3qf (show i < 1000000 by omega)]
      exact ih (by omega) (by omega)
    · simp only [q3qj hlt,cond_false]
theorem q3y3 (d:Nat) (hf:5000≤d) {L:List Dii} (hlen:L.length≤4096):q387 d ((L,()),(L,()),())=some true:=by
  have e:=q3y2 d hlen d 0 (by omega) (by omega)
  simp only [q387,q37a,q37e,q37i,q37m,q37q,Dt.eval,bne_self_eq_false,cond_false]
  exact e
theorem q3y4 (l:List T3) (n dd n' dd':Int):(q3xh l n dd n' dd').1.length≤4096:=by
  unfold q3xh
  by_cases h:chkS l n dd n' dd'=0
  · obtain ⟨hl, hok, _⟩ := q3xf h
    rw [if_neg (by simpa using h)]
    show ((q3xc l n dd n' dd').map tmU).length≤_
    rw [List.length_map];exact q3xe hok n dd n' dd'
  · rw [if_pos h];exact Nat.zero_le _
theorem q3y5 (d:Nat) (hd:5000≤d) (l:List T3) (n dd n' dd':Int) (hn:i64B n=true) (hdd:i64B dd=true) (hn':i64B n'=true) (hd':i64B dd'=true):q3b4 d ((l,()),(n,dd,()),(n',dd',()),())=some true:=by
  obtain ⟨g,e0,hs⟩:=q3xz d l
  cases g with
  | true=>simp only [q3b4,q398,q39e,q39i,q39m,Dt.eval,e0,cond_true]
  | false =>
    replace hs:=hs rfl
    have e1:=q3y0 d hs.1
    have e2:=q3wt d hd l hn hdd
    have e3:=q3wu d l hn hdd
    have e4:=q3x3 d hd l hn hdd
    have e5:=q3x4 d (by omega) l hn hdd
    have e6:=q3wy d hd l hn hdd
    have e7:=q3x0 d l hn hdd
    have e8:=q3xj d hd l hn hdd hn' hd'
    have e9:=q3xm d hd l hn hdd hn' hd'
    have e10:=q3xu d hd l hn hdd hn' hd'
    have e11:=q3xx d hd l hn hdd hn' hd'
    have e12:=q3y3 d hd (q3y4 l n dd n' dd')
    have e13:=q3y1 d hs.1
    simp only [q3b4,q398,q39e,q39i,q39m,q39q,q39u,q39y,q3a2,q3a6,q3aa,q3ae,q3ai,q3am,q3aq,q3au,q3ay,q3b0,q3b2,Dt.eval,e0,cond_false,e1,e2,e3,e4,e5,e6,e7,e8,e9,e10,e11,bne_self_eq_false,beq_self_eq_true,Bool.and_self,Bool.not_true,e12,e13,cond_true]
end Go.Proofs.YtpfhgnccpiildaaGreat

namespace Go
open Go.ChangeShapes Go.WideShapes Go.ChangeAt Go.RowKit
section
variable {H:Type} {enc:TypeId×Value→H} {P:Program} {w:World} {base:Nat} {spare:Nat→Bool} {held:Bool}
theorem q3y6 {t:TypeId} {fs:Array Field} {fuel:Nat} {cs:List Value} {x:DataW H×List MemPlace} (hs:P.underlying t=some (.struct fs)) (h:DataW.trod enc P w base spare held fuel t cs=some x)
    {i:Nat} {f:Field} (hf:fs[i]?=some f) {off n:Nat} {ft:TypeId} (ho:f.offset=off) (ht:f.type=ft) (hn:P.cellsOf ft=n):∃ m y,DataW.trod enc P w base spare held m ft ((cs.drop off).take n)=some y:=by
  obtain ⟨xs,m,_,_,_,hlen,hg⟩:=DataW.trod_struct hs h
  have h1:=hg i f hf
  subst ho ht hn
  have hi:i<xs.length:=by rw [hlen];exact (Array.getElem?_eq_some_iff.1 hf).1
  exact ⟨m,xs[i],by rw [h1,List.getElem?_eq_getElem hi]⟩
theorem q3y7 {t:TypeId} {k:IntKind} {fuel:Nat} {cs:List Value} {x:DataW H×List MemPlace} (ht:P.underlying t=some (.int k)) (h:DataW.trod enc P w base spare held fuel t cs=some x):∃ n,cs=[.int k n]∧(Lit.int k n).wf=true:=by
  obtain ⟨n,h1,_,h2⟩:=DataW.trod_int ht h;exact ⟨n,h1,h2⟩
theorem q3y8 {n:Int} (h:(Lit.int .i64 n).wf=true):-9223372036854775808≤n∧n≤9223372036854775807:=bounds_i64 h
end
end Go
namespace Go.Proofs.YtpfhgnccpiildaaGreat
open Go.ChangeShapes Go.WideShapes Go.ChangeAt Go.RowKit
theorem q3yc:ownKnob Tryz.prog.godebug=none:=by kernel_rfl
theorem q3yd:laidOutB Tryz.prog=true:=by kernel_rfl
end Go.Proofs.YtpfhgnccpiildaaGreat

namespace Go
open Go.ChangeShapes Go.WideShapes Go.ChangeAt Go.RowKit Go.Deep
theorem q3ye {α:Type} {p:Nat→α→Prop}:∀ n:Nat,(∀ i,i<n→∃ v,p i v)→∃ l:List α,l.length=n∧∀ (i:Nat) (x:α),l[i]?=some x→p i x
  | 0,_=>⟨[],rfl,fun i x h=>by simp at h⟩
  | n + 1, h => by
    obtain ⟨l,hl,hp⟩:=q3ye n fun i hi=>h i (by omega)
    obtain ⟨v,hv⟩:=h n (by omega)
    refine ⟨l ++ [v],by simp [hl],fun i x hx=>?_⟩
    rcases Nat.lt_or_ge i n with hi | hi
    · rw [List.getElem?_append_left (by omega)] at hx;exact hp i x hx
    · rw [List.getElem?_append_right (by omega)] at hx
      have:i=n:=by
        have:=(List.getElem?_eq_some_iff.1 hx).1
        simp at this;omega
      subst this
      simp [hl] at hx
      subst hx;exact hv
theorem qd {α:Type} {cells:α→List Value} {k:Nat} (hk:∀ a,(cells a).length=k) (h0:0<k):∀ (l:List α) (j:Nat) (u:Value),(l.flatMap cells)[j]?=some u→∃ x,l[j / k]?=some x∧(cells x)[j % k]?=some u
  | [],j,u,h=>by simp at h
  | x :: l, j, u, h => by
    rw [List.flatMap_cons] at h
    rcases Nat.lt_or_ge j k with hj | hj
    · rw [List.getElem?_append_left (by rw [hk]; exact hj)] at h
      rw [Nat.div_eq_of_lt hj,Nat.mod_eq_of_lt hj]
      exact ⟨x,rfl,h⟩
    · rw [List.getElem?_append_right (by rw [hk]; exact hj), hk] at h
      obtain ⟨y,hy,hu⟩:=qd hk h0 l (j - k) u h
      obtain ⟨m,rfl⟩:∃ m,j=m+k:=⟨j - k,by omega⟩
      rw [Nat.add_sub_cancel] at hy hu
      rw [Nat.add_div_right _ h0,Nat.add_mod_right]
      exact ⟨y,by simpa using hy,hu⟩
theorem q9 {α:Type} {cells:α→List Value} {k:Nat} (hk:∀ a,(cells a).length=k) (l:List α):(l.flatMap cells).length=l.length*k:=by
  induction l with
  | nil=>simp
  | cons x l ih=>rw [List.flatMap_cons,List.length_append,ih,hk,List.length_cons,Nat.add_mul];omega
section
variable {H:Type} {enc:TypeId×Value→H} {P:Program} {w:World} {base:Nat} {held:Bool}
theorem q3yf {t e:TypeId} {fuel:Nat} {A:Option Addr} {n c:Nat} {x:DataW H×List MemPlace} (ht:P.underlying t=some (.slice e))
    (h:DataW.trod enc P w base (fun _=>true) held fuel t [Value.slice A n c]=some x):A=none→c=0:=by
  rcases open_slice ht h with ⟨hcs,_⟩ | ⟨a,len,cap,m,q,D,Pl,hcs,_⟩
  · simp only [List.cons.injEq, and_true] at hcs
    injection hcs with h1 h2 h3
    intro _;exact h3
  · simp only [List.cons.injEq, and_true] at hcs
    injection hcs with h1 h2 h3
    subst h1;intro h;cases h
theorem q3yg {α:Type} (cells:α→List Value) (ok:α→Prop) {t e:TypeId} {k fuel:Nat} {A:Option Addr} {n c:Nat} {x:DataW H×List MemPlace}
    (ht:P.underlying t=some (.slice e)) (hC:P.cellsOf e=k) (h0:0<k) (hk:∀ a,(cells a).length=k)
    (hR:∀ (m:Nat) (l:List Value) (y:DataW H×List MemPlace),DataW.trod enc P w base (fun _=>true) held m e l=some y→l.length=k→∃ a,l=cells a∧ok a)
    (h:DataW.trod enc P w base (fun _=>true) held fuel t [Value.slice A n c]=some x) :
    ∃ l:List α,l.length=n∧Sl w k A l.length c (l.flatMap cells)∧(∀ a∈l,ok a)∧(A=none→c=0)∧c≤maxLen:=by
  rcases open_slice ht h with ⟨hcs,_⟩ | ⟨a,len,cap,m,q,D,Pl,hcs,_,hl,hmx,hm,_,hi⟩
  · simp only [List.cons.injEq, and_true] at hcs
    injection hcs with h1 h2 h3
    subst h1 h2 h3
    exact ⟨[],rfl,Sl.nil_ _ _ _ _,(fun _ h=>by cases h),(fun _=>rfl),Nat.zero_le _⟩
  · simp only [List.cons.injEq, and_true] at hcs
    injection hcs with h1 h2 h3
    subst h1 h2 h3
    simp only [if_true] at hm
    subst hm
    obtain ⟨l,hll,hp⟩:=q3ye (α:=α) (p:=fun i v=>(∀ j u,(cells v)[j]?=some u→w.cell? (a.add (i*k+j))=some u)∧ok v) n (fun i hin=>by
      obtain ⟨cs',hc,ht'⟩:=hi i (by omega)
      rw [hC] at hc
      obtain ⟨_,hcl,hat⟩:=World.cells?_some hc
      obtain ⟨v,rfl,hv⟩:=hR _ _ _ ht' hcl
      refine ⟨v,fun j u hu=>?_,hv⟩
      have hj:j<k:=by rw [← hk v];exact (List.getElem?_eq_some_iff.1 hu).1
      rw [← Go.Deep.add_add,hat j hj,hu])
    refine ⟨l,hll,⟨by omega,by rw [q9 hk,hll],fun hn=>?_⟩,fun v hv=>?_,(fun h=>by cases h),hmx⟩
    · obtain ⟨v0, hv0⟩ : ∃ v, l[0]? = some v := ⟨_, List.getElem?_eq_getElem (by omega)⟩
      obtain ⟨u0,hu0⟩:∃ u,(cells v0)[0]?=some u:=⟨_,List.getElem?_eq_getElem (by rw [hk];exact h0)⟩
      have hc0:=(hp 0 v0 hv0).1 0 u0 hu0
      obtain ⟨b,o,spot⟩:=a
      have hspot:spot=none:=by simpa [Addr.add] using World.cell?_spot hc0
      subst hspot
      refine ⟨b,o,rfl,?_,fun j u hu=>?_⟩
      · have hb := World.block_lt_of_cell? w _ hc0
        simpa [Addr.add] using hb
      · obtain ⟨v, hv, huv⟩ := qd hk h0 l j u hu
        have h1:=(hp _ v hv).1 _ u huv
        have e0:j / k*k+j % k=j:=by rw [Nat.mul_comm];exact Nat.div_add_mod j k
        rw [e0] at h1
        have e1:(⟨b,o,none⟩:Addr).add j=⟨b,o+j,none⟩:=by
          unfold Addr.add;split
          · rename_i h0;rw [h0];rfl
          · rfl
        rw [e1] at h1;exact h1
    · obtain ⟨i, hi'⟩ := List.getElem?_of_mem hv
      exact (hp i v hi').2
end
end Go

namespace Go.Proofs.YtpfhgnccpiildaaGreat
open Go.ChangeShapes Go.WideShapes Go.ChangeAt Go.RowKit Go.Pel Go.Deep
theorem q3yh {α:Type} (l:List α) (h:l.length=1):∃ a,l=[a]:=by
  match l,h with
  | [a],_=>exact ⟨a,rfl⟩
theorem q3yi {α:Type} (l:List α) (h:l.length=2):∃ a b,l=[a,b]:=by
  match l,h with
  | [a,b],_=>exact ⟨a,b,rfl⟩
theorem q3yj {α:Type} (l:List α) (h:l.length=3):∃ a b c,l=[a,b,c]:=by
  match l,h with
  | [a,b,c],_=>exact ⟨a,b,c,rfl⟩
section
variable {H:Type} {enc:TypeId×Value→H} {w:World} {base:Nat} {spare:Nat→Bool} {held:Bool}
theorem q3yk:Tryz.prog.cellsOf 3=1:=by kernel_rfl
theorem q3yl:Tryz.prog.cellsOf 2=1:=by kernel_rfl
theorem q3ym:Tryz.prog.cellsOf 79=3:=by kernel_rfl
theorem q3yn:Tryz.prog.cellsOf 24=1:=by kernel_rfl
theorem q3yo:Tryz.prog.cellsOf 22=1:=by kernel_rfl
theorem q3yp {fuel:Nat} {l:List Value} {x:DataW H×List MemPlace} (h:DataW.trod enc Tryz.prog w base spare held fuel 79 l=some x) (hl:l.length=3) :
    ∃ p:Pt,l=[.int .i64 p.id,.int .i64 p.a,.int .i64 p.b]∧p.Fits:=by
  obtain ⟨c0,c1,c2,rfl⟩:=q3yj l hl
  obtain ⟨m4,y4,h4⟩:=q3y6 Tryz.underlying79 h (i:=0) rfl rfl rfl q3yk
  obtain ⟨m5,y5,h5⟩:=q3y6 Tryz.underlying79 h (i:=1) rfl rfl rfl q3yl
  obtain ⟨m6,y6,h6⟩:=q3y6 Tryz.underlying79 h (i:=2) rfl rfl rfl q3yl
  obtain ⟨i,e4,w4⟩:=q3y7 Tryz.underlying3 h4
  obtain ⟨a,e5,w5⟩:=q3y7 Tryz.underlying2 h5
  obtain ⟨b,e6,w6⟩:=q3y7 Tryz.underlying2 h6
  simp at e4 e5 e6
  subst e4 e5 e6
  exact ⟨⟨i,a,b⟩,rfl,⟨q3y8 w4,q3y8 w5,q3y8 w6⟩⟩
theorem q3yq (fuel:Nat) (l:List Value) (x:DataW H×List MemPlace) (h:DataW.trod enc Tryz.prog w base spare held fuel 79 l=some x) (hl:l.length=3):∃ p:Pt,l=p.cells∧p.Fits:=q3yp h hl
theorem q3yr {fuel:Nat} {l:List Value} {x:DataW H×List MemPlace} (h:DataW.trod enc Tryz.prog w base (fun _=>true) held fuel 24 l=some x) (hl:l.length=1) :
    ∃ (A:Option Addr) (c:Nat) (m:List Pt),l=[.slice A m.length c]∧Sl w 3 A m.length c (vp m)∧(A=none→c=0)∧∀ p∈m,p.Fits:=by
  obtain ⟨c0,rfl⟩:=q3yh l hl
  obtain ⟨m0,y0,h0⟩:=q3y6 Tryz.underlying24 h (i:=0) rfl rfl rfl q3yo
  have h0':DataW.trod enc Tryz.prog w base (fun _=>true) held m0 22 [c0]=some y0:=by simpa using h0
  obtain ⟨A,n,c,rfl⟩:∃ A n c,c0=Value.slice A n c:=by
    rcases open_slice Tryz.underlying22 h0' with ⟨hcs,_⟩ | ⟨a,len,cap,m,q,D,Pl,hcs,_⟩
    · simp only [List.cons.injEq,and_true] at hcs;exact ⟨_,_,_,hcs⟩
    · simp only [List.cons.injEq,and_true] at hcs;exact ⟨_,_,_,hcs⟩
  have hn:=q3yf Tryz.underlying22 h0'
  obtain ⟨pts,rfl,hs,hok,_,_⟩:=q3yg Pt.cells Pt.Fits Tryz.underlying22 q3ym (by decide) (fun _=>rfl) q3yq h0'
  exact ⟨A,c,pts,rfl,hs,hn,hok⟩
theorem q3ys:Tryz.prog.cellsOf 26=2:=by kernel_rfl
theorem q3yt {fuel:Nat} {l:List Value} {x:DataW H×List MemPlace} (h:DataW.trod enc Tryz.prog w base spare held fuel 26 l=some x) (hl:l.length=2) :
    ∃ n d:Int,l=[.int .i64 n,.int .i64 d]∧(-9223372036854775808≤n∧n≤9223372036854775807)∧(-9223372036854775808≤d∧d≤9223372036854775807):=by
  obtain ⟨c0,c1,rfl⟩:=q3yi l hl
  obtain ⟨m4,y4,h4⟩:=q3y6 Tryz.underlying26 h (i:=0) rfl rfl rfl q3yl
  obtain ⟨m5,y5,h5⟩:=q3y6 Tryz.underlying26 h (i:=1) rfl rfl rfl q3yl
  obtain ⟨n,e4,w4⟩:=q3y7 Tryz.underlying2 h4
  obtain ⟨d,e5,w5⟩:=q3y7 Tryz.underlying2 h5
  simp at e4 e5
  subst e4 e5
  exact ⟨n,d,rfl,q3y8 w4,q3y8 w5⟩
end
end Go.Proofs.YtpfhgnccpiildaaGreat
