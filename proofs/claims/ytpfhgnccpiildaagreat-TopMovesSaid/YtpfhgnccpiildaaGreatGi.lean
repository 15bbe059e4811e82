/- Walks of the references; the orders agree; examples. -/
import Derived.Test.YtpfhgnccpiildaaGreatGh
set_option linter.unusedSimpArgs false
set_option linter.unusedVariables false
namespace Go.Pel
open Go Go.Tx
def bdL (a:List T3):Prop:=∀ x∈a,i64B x.1=true∧i64B x.2.1=true
def q377 (a:List T3) (i:Nat):Option T3:=if i=0 then none else a[i - 1]?
theorem q378 (a:List T3) (i:Nat):q377 a (i+1)=a[i]?:=by unfold q377;rw [if_neg (by omega)];rfl
theorem q379 {l:List T3} (h:FldOk l) {p:T3} {n dd:Int} {a:List T3} (ha:Crest l p n dd a) (hn:i64B n=true) (hd:i64B dd=true) (hp:p∈l):bdL a:=by
  induction ha with
  | last p n dd _ =>
    intro x hx
    rw [List.mem_singleton] at hx
    subst hx
    exact ⟨hn,hd⟩
  | next p n dd n' dd' p' r h1 h2 _ ih =>
    obtain ⟨g1,g2,g3⟩:=h1.ok h hp
    have o:=(qd2 g1).1
    have hb:∀ {z:Int},z.natAbs≤4194304→i64B z=true:=fun {z} hz=>by
      unfold i64B;simp only [Bool.and_eq_true,decide_eq_true_eq];omega
    intro x hx
    rcases List.mem_cons.1 hx with rfl | hx
    · exact ⟨hn,hd⟩
    · exact ih (hb g2) (hb (by omega)) h2.1 x hx
theorem q37a (a b c d:Int):(cmpQ a b c d=-1∧a*d<c*b)∨(cmpQ a b c d=0∧a*d=c*b)∨(cmpQ a b c d=1∧c*b<a*d):=by
  unfold cmpQ cmpZ
  repeat' split
  all_goals omega
end Go.Pel
namespace Go.Proofs.YtpfhgnccpiildaaGreat
open Go Go.Tx Go.Pel
theorem q37b (d:Nat) {n dd:Int} (hn:i64B n=true) (hd:i64B dd=true):qmv d ((n,dd,()),())=some (qcv n dd):=qmw _ _ (by unfold qmu;simp only [hn,hd,Bool.and_self])
theorem q37c (d:Nat) {a:List T3} (hb:bdL a) (hlen:a.length≤1000):∀ (f i:Nat),a.length - i<f→i≤a.length→(∀ y,q377 a i=some y→okL y=true) →
    iter (q2ju d) f (a,a,(a.length:Int),(i:Int))=some (if chkR (q377 a i) (a.drop i)=true then 0 else 8)
  | 0,i,hf,_,_=>by omega
  | f + 1, i, hf, hi, hy => by
    have ih:=q37c d hb hlen f (i+1)
    rw [iter]
    revert ih
    generalize iter (q2ju d) f=self
    intro ih
    unfold q2ju
    by_cases hlt:i<a.length
    · obtain ⟨x, hx⟩ : ∃ x, a[i]? = some x := ⟨_, List.getElem?_eq_getElem hlt⟩
      obtain ⟨b1,b2⟩:=hb x (List.mem_of_getElem? hx)
      have e1:=q37b d b1 b2
      have wi:=q347 (show i<1000000 by omega)
      rw [q34c hx]
      unfold chkR
      simp only [q2j8,q2jc,q2jg,q2ji,q2jm,q2jo,q2jq,q2js,Dt.eval,q2io,q34a hlt,cond_true,q349 hlt,q348 hx,e1]
      by_cases h1:qcv x.1 x.2.1=0
      · by_cases h2 : x.2.2.1 < 0
        · have hk : okL x = false := by cases h : okL x with | false => rfl | true => have := (q36k.1 h).2; omega
          simp only [h1,show ((0:Int) != 0)=false from rfl,cond_false,decide_eq_true h2,cond_true,Dt.eval,hk,Bool.false_and,Bool.false_eq_true,if_false]
        · by_cases h3 : x.2.2.1 > 65535
          · have hk : okL x = false := by cases h : okL x with | false => rfl | true => have := (q36k.1 h).2; omega
            simp only [h1,show ((0:Int) != 0)=false from rfl,cond_false,decide_eq_false h2,decide_eq_true h3,cond_true,Dt.eval,hk,Bool.false_and,Bool.false_eq_true,if_false]
          · have hk : okL x = true := q36k.2 ⟨h1, by omega, by omega⟩
            have ih':=ih (by omega) (by omega) (fun y hy=>by rw [q378,hx] at hy;injection hy with hy;subst hy;exact hk)
            rw [q378,hx] at ih'
            simp only [h1,show ((0:Int) != 0)=false from rfl,cond_false,decide_eq_false h2,decide_eq_false h3,Dt.eval,hk,Bool.true_and]
            rcases Nat.eq_zero_or_pos i with h0 | h0
            · subst h0
              simp only [show decide (((0:Nat):Int) > 0)=false from rfl,cond_false,Dt.eval,wi,show q377 a 0=none from rfl,Bool.true_and]
              exact ih'
            · have c3 : decide ((i : Int) > 0) = true := by rw [decide_eq_true_eq]; omega
              obtain ⟨y,hy1⟩:∃ y,a[i - 1]?=some y:=⟨_,List.getElem?_eq_getElem (by omega)⟩
              have hpv:q377 a i=some y:=by unfold q377;rw [if_neg (by omega)];exact hy1
              have hyk:=hy y hpv
              obtain ⟨b3,b4⟩:=hb y (List.mem_of_getElem? hy1)
              have e2:q2f7 d ((y.1,y.2.1,()),(x.1,x.2.1,()),())=some (cmpQ y.1 y.2.1 x.1 x.2.1):=by
                rw [q370 d _ _ _ _ b3 b4 b1 b2];unfold cmpR;rw [if_pos ⟨(q36k.1 hyk).1,h1⟩]
              have wk:IntKind.wrap .i64 ((i:Int) - 1)=((i - 1:Nat):Int):=by rw [IntWalk.i64_in _ (by omega)];omega
              simp only [c3,cond_true,wk,q349 (show i - 1<a.length by omega),q348 hy1,e2,Dt.eval,hpv]
              unfold nxB
              rcases q37a y.1 y.2.1 x.1 x.2.1 with ⟨k1,_⟩ | ⟨k1,_⟩ | ⟨k1,_⟩
              · simp only [k1, show decide ((-1 : Int) ≥ 0) = false from rfl, show decide ((-1 : Int) < 0) = true from rfl, cond_false, Bool.true_and, Dt.eval]
                by_cases hid:y.2.2.1=x.2.2.1
                · simp only [hid,beq_self_eq_true,cond_true,ne_eq,not_true_eq_false,decide_false,Bool.false_and,Bool.false_eq_true,if_false,Dt.eval]
                · simp only [show (y.2.2.1 == x.2.2.1) = false by rw [beq_eq_false_iff_ne]; exact hid, cond_false, ne_eq, hid, not_false_eq_true, decide_true, Bool.true_and, Dt.eval, wi]
                  exact ih'
              · simp only [k1,show decide ((0:Int)≥0)=true from rfl,show decide ((0:Int)<0)=false from rfl,cond_true,Bool.false_and,Bool.false_eq_true,if_false,Dt.eval]
              · simp only [k1,show decide ((1:Int)≥0)=true from rfl,show decide ((1:Int)<0)=false from rfl,cond_true,Bool.false_and,Bool.false_eq_true,if_false,Dt.eval]
      · have hk : okL x = false := by cases h : okL x with | false => rfl | true => exact absurd (q36k.1 h).1 h1
        simp only [show (qcv x.1 x.2.1 != 0)=true by simpa using h1,cond_true,Dt.eval,hk,Bool.false_and,Bool.false_eq_true,if_false]
    · have hkl : i = a.length := by omega
      simp only [q2j8,q2js,Dt.eval,q34b hlt,cond_false]
      rw [hkl,List.drop_length]
      simp [chkR]
theorem q37d (d:Nat) (hf:5000≤d) {a:List T3} (hb:bdL a) (hlen:a.length≤1000):q2jv d ((a,()),())=some (chkL a):=by
  have e:=q37c d hb hlen d 0 (by omega) (by omega) (fun y hy=>by cases hy)
  unfold chkL
  simp only [q2jv,q2io,q2is,q2iw,q2j0,q2j4,Dt.eval]
  by_cases h1:a.length<1
  · simp only [show decide ((a.length:Int)<1)=true by rw [decide_eq_true_eq];omega,cond_true,h1,true_or,if_true,Dt.eval]
  · by_cases h2 : 300 < a.length
    · simp only [show decide ((a.length:Int)<1)=false by rw [decide_eq_false_iff_not];omega,show decide ((a.length:Int) > 300)=true by rw [decide_eq_true_eq];omega,cond_false,cond_true,h2,or_true,if_true,Dt.eval]
    · simp only [show decide ((a.length : Int) < 1) = false by rw [decide_eq_false_iff_not]; omega, show decide ((a.length : Int) > 300) = false by rw [decide_eq_false_iff_not]; omega, cond_false, h1, h2, or_self, if_false, Dt.eval]
      exact e
theorem q37e (d:Nat) {a:List T3} (hb:bdL a) (hlen:a.length≤1000):∀ (f i:Nat),a.length - i<f→i≤a.length →
    iter (q2sb d) f (a,(i:Int))=some (if chkR (q377 a i) (a.drop i)=true then 0 else 8)
  | 0,i,hf,_=>by omega
  | f + 1, i, hf, hi => by
    have ih:=q37e d hb hlen f (i+1)
    rw [iter]
    revert ih
    generalize iter (q2sb d) f=self
    intro ih
    unfold q2sb
    by_cases hlt:i<a.length
    · obtain ⟨x, hx⟩ : ∃ x, a[i]? = some x := ⟨_, List.getElem?_eq_getElem hlt⟩
      obtain ⟨b1,b2⟩:=hb x (List.mem_of_getElem? hx)
      have e1:=q34d d b1 b2
      have wi:=q347 (show i<1000000 by omega)
      rw [q34c hx]
      unfold chkR
      simp only [q2rt,q2s7,q2rx,q2rz,q2s3,q2s5,q2s9,Dt.eval,q2r9,q34a hlt,cond_true,q349 hlt,q348 hx,e1]
      by_cases h1:qcv x.1 x.2.1=0
      · by_cases h2 : x.2.2.1 < 0
        · have hk : okL x = false := by cases h : okL x with | false => rfl | true => have := (q36k.1 h).2; omega
          simp only [h1,show ((0:Int) != 0)=false from rfl,cond_false,decide_eq_true h2,cond_true,Dt.eval,hk,Bool.false_and,Bool.false_eq_true,if_false]
        · by_cases h3 : x.2.2.1 > 65535
          · have hk : okL x = false := by cases h : okL x with | false => rfl | true => have := (q36k.1 h).2; omega
            simp only [h1,show ((0:Int) != 0)=false from rfl,cond_false,decide_eq_false h2,decide_eq_true h3,cond_true,Dt.eval,hk,Bool.false_and,Bool.false_eq_true,if_false]
          · have hk : okL x = true := q36k.2 ⟨h1, by omega, by omega⟩
            have ih':=ih (by omega) (by omega)
            rw [q378,hx] at ih'
            simp only [h1,show ((0:Int) != 0)=false from rfl,cond_false,decide_eq_false h2,decide_eq_false h3,Dt.eval,hk,Bool.true_and]
            rcases Nat.eq_zero_or_pos i with h0 | h0
            · subst h0
              simp only [show decide (((0:Nat):Int) > 0)=false from rfl,cond_false,Dt.eval,wi,show q377 a 0=none from rfl,Bool.true_and]
              exact ih'
            · have c3 : decide ((i : Int) > 0) = true := by rw [decide_eq_true_eq]; omega
              obtain ⟨y,hy1⟩:∃ y,a[i - 1]?=some y:=⟨_,List.getElem?_eq_getElem (by omega)⟩
              have hpv:q377 a i=some y:=by unfold q377;rw [if_neg (by omega)];exact hy1
              obtain ⟨b3,b4⟩:=hb y (List.mem_of_getElem? hy1)
              have e2:=q32t d y.1 y.2.1 x.1 x.2.1 b3 b4 b1 b2
              have wk:IntKind.wrap .i64 ((i:Int) - 1)=((i - 1:Nat):Int):=by rw [IntWalk.i64_in _ (by omega)];omega
              simp only [c3,cond_true,wk,q349 (show i - 1<a.length by omega),q349 hlt,q348 hy1,q348 hx,e2,Dt.eval,hpv]
              unfold nxB
              rcases q37a y.1 y.2.1 x.1 x.2.1 with ⟨k1,_⟩ | ⟨k1,_⟩ | ⟨k1,_⟩
              · simp only [k1, show decide ((-1 : Int) ≥ 0) = false from rfl, show decide ((-1 : Int) < 0) = true from rfl, cond_false, Bool.true_and, Dt.eval]
                by_cases hid:y.2.2.1=x.2.2.1
                · simp only [hid,beq_self_eq_true,cond_true,ne_eq,not_true_eq_false,decide_false,Bool.false_and,Bool.false_eq_true,if_false,Dt.eval]
                · simp only [show (y.2.2.1 == x.2.2.1) = false by rw [beq_eq_false_iff_ne]; exact hid, cond_false, ne_eq, hid, not_false_eq_true, decide_true, Bool.true_and, Dt.eval, wi]
                  exact ih'
              · simp only [k1,show decide ((0:Int)≥0)=true from rfl,show decide ((0:Int)<0)=false from rfl,cond_true,Bool.false_and,Bool.false_eq_true,if_false,Dt.eval]
              · simp only [k1,show decide ((1:Int)≥0)=true from rfl,show decide ((1:Int)<0)=false from rfl,cond_true,Bool.false_and,Bool.false_eq_true,if_false,Dt.eval]
      · have hk : okL x = false := by cases h : okL x with | false => rfl | true => exact absurd (q36k.1 h).1 h1
        simp only [show (qcv x.1 x.2.1 != 0)=true by simpa using h1,cond_true,Dt.eval,hk,Bool.false_and,Bool.false_eq_true,if_false]
    · have hkl : i = a.length := by omega
      simp only [q2rt,q2s9,Dt.eval,q34b hlt,cond_false]
      rw [hkl,List.drop_length]
      simp [chkR]
theorem q37f (d:Nat) (hf:5000≤d) {a:List T3} (hb:bdL a) (hlen:a.length≤1000):q2sc d ((a,()),())=some (chkL a):=by
  have e:=q37e d hb hlen d 0 (by omega) (by omega)
  unfold chkL
  simp only [q2sc,q2r9,q2rd,q2rh,q2rl,q2rp,Dt.eval]
  by_cases h1:a.length<1
  · simp only [show decide ((a.length:Int)<1)=true by rw [decide_eq_true_eq];omega,cond_true,h1,true_or,if_true,Dt.eval]
  · by_cases h2 : 300 < a.length
    · simp only [show decide ((a.length:Int)<1)=false by rw [decide_eq_false_iff_not];omega,show decide ((a.length:Int) > 300)=true by rw [decide_eq_true_eq];omega,cond_false,cond_true,h2,or_true,if_true,Dt.eval]
    · simp only [show decide ((a.length : Int) < 1) = false by rw [decide_eq_false_iff_not]; omega, show decide ((a.length : Int) > 300) = false by rw [decide_eq_false_iff_not]; omega, cond_false, h1, h2, or_self, if_false, Dt.eval]
      exact e
theorem q37g (d:Nat) {x:T3} (b1:i64B x.1=true) (b2:i64B x.2.1=true) (hx:qcv x.1 x.2.1=0) {n dd:Int} (hn:i64B n=true) (hd:i64B dd=true) (hr:qcv n dd=0):q2kf d ((x.1,x.2.1,x.2.2.1,()),(n,dd,()),())=some (cmpQ x.1 x.2.1 n dd):=by
  have e1:q2f7 d ((x.1,x.2.1,()),(n,dd,()),())=some (cmpQ x.1 x.2.1 n dd):=by
    rw [q370 d _ _ _ _ b1 b2 hn hd];unfold cmpR;rw [if_pos ⟨hx,hr⟩]
  simp only [q2kf,q2k3,q2k9,q2kd,Dt.eval,e1]
def ltL (n dd:Int) (x:T3):Prop:=x.1*dd<n*x.2.1
theorem q37h (d:Nat) {a:List T3} {n dd:Int} (hb:bdL a) (hc:chkR none a=true) (hlen:a.length≤1000) (hn:i64B n=true) (hd:i64B dd=true) (hr:qcv n dd=0):∀ (f lo hi:Nat),hi - lo<f→lo≤hi→hi≤a.length→(∀ j x,j<lo→a[j]?=some x→ltL n dd x)→(∀ j x,hi≤j→a[j]?=some x→¬ ltL n dd x) →
    ∃ (k:Nat) (b:Bool),k≤a.length∧(∀ j x,j<k→a[j]?=some x→ltL n dd x)∧(∀ j x,k≤j→a[j]?=some x→¬ ltL n dd x)∧(b=true ↔ ∃ x,a[k]?=some x∧x.1*dd=n*x.2.1)∧iter (q2ln d) f (a,(a.length:Int),(lo:Int),(hi:Int),n,dd)=some ((k:Int),b)
  | 0,lo,hi,h,_,_,_,_=>by omega
  | f + 1, lo, hi, h, hle, hhi, h1, h2 => by
    have hD:=(qd2 hr).1
    obtain ⟨k1,k2,_⟩:=q36n hc
    rw [List.pairwise_iff_getElem] at k2
    have hval:∀ {x},x∈a→qcv x.1 x.2.1=0:=fun hx=>(q36k.1 (k1 _ hx)).1
    have hlt2:∀ {i j:Nat} {x y:T3},i<j→a[i]?=some x→a[j]?=some y→x.1*y.2.1<y.1*x.2.1:=fun {i j x y} hij hx hy=>by
      obtain ⟨hi,rfl⟩:=List.getElem?_eq_some_iff.1 hx
      obtain ⟨hj,rfl⟩:=List.getElem?_eq_some_iff.1 hy
      exact k2 i j hi hj hij
    rw [iter]
    have ih:=q37h d hb hc hlen hn hd hr f
    revert ih
    generalize iter (q2ln d) f=self
    intro ih
    unfold q2ln
    simp only [q2l5,q2l9,q2ld,q2lf,q2lh,q2ll,Dt.eval,q2kn]
    by_cases hlt:lo<hi
    · have wm:IntKind.wrap .i64 (shrI .u64 (IntKind.wrap .u64 (IntKind.wrap .i64 ((lo:Int)+(hi:Int)))) 1)=(((lo+hi) / 2:Nat):Int):=by
        rw [show IntKind.wrap .i64 ((lo:Int)+(hi:Int))=(lo:Int)+(hi:Int) from IntWalk.i64_in _ (by omega),show IntKind.wrap .u64 ((lo:Int)+(hi:Int))=((lo+hi:Nat):Int) by rw [IntKind.wrap_u64];omega]
        have:shrI .u64 ((lo+hi:Nat):Int) 1=(((lo+hi) / 2:Nat):Int):=by
          unfold shrI
          rw [show (2:Int) ^ (min (1:Int).toNat IntKind.u64.bits)=2 from by decide,Int.fdiv_eq_ediv_of_nonneg _ (by omega)];omega
        rw [this];exact IntWalk.i64_in _ (by omega)
      obtain ⟨m,hm⟩:∃ m,(lo+hi) / 2=m:=⟨_,rfl⟩
      rw [hm] at wm
      have hml:m<a.length:=by omega
      obtain ⟨x,hx⟩:∃ x,a[m]?=some x:=⟨_,List.getElem?_eq_getElem hml⟩
      have hxm:=List.mem_of_getElem? hx
      obtain ⟨b1,b2⟩:=hb x hxm
      have e1:=q37g d b1 b2 (hval hxm) hn hd hr
      have oX:=(qd2 (hval hxm)).1
      simp only [q34a hlt,cond_true,wm,q349 hml,q348 hx,e1,Dt.eval]
      rcases q37a x.1 x.2.1 n dd with ⟨c1,c2⟩ | ⟨c1,c2⟩ | ⟨c1,c2⟩
      · simp only [c1, show decide ((-1 : Int) < 0) = true from rfl, cond_true, Dt.eval, q347 (show m < 1000000 by omega)]
        refine ih (m+1) hi (by omega) (by omega) (by omega) (fun j y hj hy=>?_) h2
        rcases (by omega:j<m∨j=m) with hjm | rfl
        · have oY := (qd2 (hval (List.mem_of_getElem? hy))).1
          exact q_lt oY oX hD (hlt2 hjm hy hx) (by omega)
        · rw [hx] at hy;injection hy with hy;subst hy;exact c2
      · simp only [c1, show decide ((0 : Int) < 0) = false from rfl, cond_false, Dt.eval]
        refine ih lo m (by omega) (by omega) (by omega) h1 (fun j y hj hy=>?_)
        rcases (by omega:m<j∨j=m) with hjm | rfl
        · have oY := (qd2 (hval (List.mem_of_getElem? hy))).1
          intro k
          have:=q_lt oX oY hD (hlt2 hjm hx hy) (Int.le_of_lt k)
          omega
        · rw [hx] at hy;injection hy with hy;subst hy;unfold ltL;omega
      · simp only [c1, show decide ((1 : Int) < 0) = false from rfl, cond_false, Dt.eval]
        refine ih lo m (by omega) (by omega) (by omega) h1 (fun j y hj hy=>?_)
        rcases (by omega:m<j∨j=m) with hjm | rfl
        · have oY := (qd2 (hval (List.mem_of_getElem? hy))).1
          intro k
          have:=q_lt oX oY hD (hlt2 hjm hx hy) (Int.le_of_lt k)
          omega
        · rw [hx] at hy;injection hy with hy;subst hy;unfold ltL;omega
    · obtain rfl : lo = hi := by omega
      simp only [q34b hlt,cond_false]
      by_cases hll:lo<a.length
      · obtain ⟨x, hx⟩ : ∃ x, a[lo]? = some x := ⟨_, List.getElem?_eq_getElem hll⟩
        have hxm:=List.mem_of_getElem? hx
        obtain ⟨b1,b2⟩:=hb x hxm
        have e1:=q37g d b1 b2 (hval hxm) hn hd hr
        simp only [q34a hll,cond_true,q349 hll,q348 hx,e1,Dt.eval]
        refine ⟨lo,_,by omega,h1,h2,?_,rfl⟩
        rw [beq_iff_eq]
        constructor
        · intro k
          rcases q37a x.1 x.2.1 n dd with ⟨c1,c2⟩ | ⟨c1,c2⟩ | ⟨c1,c2⟩
          · rw [c1] at k;cases k
          · exact ⟨x,hx,c2⟩
          · rw [c1] at k;cases k
        · rintro ⟨y, hy, k⟩
          rw [hx] at hy;injection hy with hy;subst hy
          rcases q37a x.1 x.2.1 n dd with ⟨c1,c2⟩ | ⟨c1,c2⟩ | ⟨c1,c2⟩
          · omega
          · exact c1
          · omega
      · simp only [q34b hll, cond_false]
        refine ⟨lo,false,by omega,h1,h2,?_,rfl⟩
        constructor
        · intro k;cases k
        · rintro ⟨y, hy, _⟩
          have:=(List.getElem?_eq_some_iff.1 hy).1;omega
theorem q37i (d:Nat) (hf:5000≤d) {a:List T3} {n dd:Int} (hb:bdL a) (hc:chkR none a=true) (hlen:a.length≤1000) (hn:i64B n=true) (hd:i64B dd=true) (hr:qcv n dd=0):q2ml d ((a,()),(n,dd,()),())=some ((idxL n dd a:Int) - 1):=by
  obtain ⟨k,b,h1,h2,h3,h4,h5⟩:=q37h d hb hc hlen hn hd hr d 0 a.length (by omega) (by omega) (Nat.le_refl _) (fun j x hj=>by omega) (fun j x hj hx=>by have:=(List.getElem?_eq_some_iff.1 hx).1;omega)
  have e1:q2lo d ((a,()),(n,dd,()),(),())=some ((k:Int),b):=by
    simp only [q2lo,q2kn,q2kt,q2kx,q2l1,Dt.eval]
    exact h5
  obtain ⟨k1,k2,_⟩:=q36n hc
  rw [List.pairwise_iff_getElem] at k2
  unfold ltL at h2 h3
  cases b with
  | true =>
    obtain ⟨x,hx,hxe⟩:=h4.1 rfl
    have hi:idxL n dd a=k+1:=by
      have hkl:=(List.getElem?_eq_some_iff.1 hx).1
      refine q36p (by omega) (fun j y hj hy=>?_) (fun y hy=>?_)
      · cases hg : gtL n dd y with
        | false=>rfl
        | true =>
          have hg:=(q36j ..).1 hg
          rcases (by omega:j<k∨j=k) with hjk | rfl
          · have:=h2 j y hjk hy;omega
          · rw [hx] at hy;injection hy with hy;subst hy;omega
      · obtain ⟨hk1, rfl⟩ := List.getElem?_eq_some_iff.1 hx
        obtain ⟨hk2,rfl⟩:=List.getElem?_eq_some_iff.1 hy
        have:=k2 k (k+1) hk1 hk2 (by omega)
        rw [q36j]
        have o1:=(qd2 hr).1
        have o2:=(qd2 (q36k.1 (k1 _ (List.getElem_mem hk1))).1).1
        have o3:=(qd2 (q36k.1 (k1 _ (List.getElem_mem hk2))).1).1
        exact q32u o1 o2 o3 (by omega) this
    simp only [q2ml,q2lw,q2m2,q2m6,q2ma,q2me,q2mi,q2mk,Dt.eval,e1,Bool.not_true,cond_false]
    exact congrArg some (by omega:(k:Int)=(idxL n dd a:Int) - 1)
  | false =>
    have hi:idxL n dd a=k:=by
      refine q36p h1 (fun j y hj hy=>?_) (fun y hy=>?_)
      · cases hg : gtL n dd y with
        | false=>rfl
        | true=>have hg:=(q36j ..).1 hg;have:=h2 j y hj hy;omega
      · rw [q36j]
        have q1:=h3 k y (Nat.le_refl _) hy
        have q2:¬ y.1*dd=n*y.2.1:=fun e=>by cases h4.2 ⟨y,hy,e⟩
        omega
    have hk:=q36q n dd a
    simp only [q2ml,q2lw,q2m2,q2m6,q2ma,q2me,q2mi,q2mk,Dt.eval,e1,Bool.not_false,cond_true,show IntKind.wrap .i64 ((k:Int) - 1)=(k:Int) - 1 from IntWalk.i64_in _ (by omega)]
    exact congrArg some (by omega:(k:Int) - 1=(idxL n dd a:Int) - 1)
theorem q37j (n d:Int):qcv n d=0∨qcv n d=8:=by
  unfold qcv
  split
  · exact .inl rfl
  · exact .inr rfl
theorem q37k (a:List T3):chkL a=0∨chkL a=8:=by
  unfold chkL
  split
  · exact .inr rfl
  · split
    · exact .inl rfl
    · exact .inr rfl
theorem q37l (d:Nat) (hf:5000≤d) {a:List T3} {n dd:Int} (hb:bdL a) (hlen:a.length≤1000) (hn:i64B n=true) (hd:i64B dd=true):q2np d ((a,()),(n,dd,()),())=some (atV a n dd):=by
  have e1:=q37d d hf hb hlen
  have e2:=q37b d hn hd
  unfold atV
  simp only [q2np,q2mt,q2mz,q2n3,q2n7,q2nb,q2nf,q2nj,q2nl,q2nn,Dt.eval,e1,e2]
  rcases q37k a with h1 | h1
  · rcases q37j n dd with h2 | h2
    · obtain ⟨_, _, hc⟩ := q36m h1
      have e3:=q37i d hf hb hc hlen hn hd h2
      simp only [h1,h2,show tmax (0:Int) 0=0 from rfl,show ((0:Int) != 0)=false from rfl,cond_false,Dt.eval,e3,ne_eq,not_true_eq_false,or_self,if_false]
      by_cases h0:idxL n dd a=0
      · simp only [h0,if_true,show decide ((((0:Nat):Int) - 1)<0)=true from rfl,cond_true]
      · have hk := q36q n dd a
        obtain ⟨x,hx⟩:∃ x,a[idxL n dd a - 1]?=some x:=⟨_,List.getElem?_eq_getElem (by omega)⟩
        have ek:(idxL n dd a:Int) - 1=((idxL n dd a - 1:Nat):Int):=by omega
        simp only [h0,if_false,ek,show decide (((idxL n dd a - 1:Nat):Int)<0)=false by rw [decide_eq_false_iff_not];omega,cond_false,q349 (show idxL n dd a - 1<a.length by omega),cond_true,q348 hx,hx,Option.getD_some]
    · simp only [h1,h2,show tmax (0:Int) 8=8 from rfl,show ((8:Int) != 0)=true from rfl,cond_true,ne_eq,not_true_eq_false,false_or,show ¬ (8:Int)=0 by decide,not_false_eq_true,if_true]
  · rcases q37j n dd with h2 | h2
    · simp only [h1,h2,show tmax (8:Int) 0=8 from rfl,show ((8:Int) != 0)=true from rfl,cond_true,ne_eq,not_true_eq_false,or_false,show ¬ (8:Int)=0 by decide,not_false_eq_true,if_true]
    · simp only [h1,h2,show tmax (8:Int) 8=8 from rfl,show ((8:Int) != 0)=true from rfl,cond_true,ne_eq,or_self,show ¬ (8:Int)=0 by decide,not_false_eq_true,if_true]
end Go.Proofs.YtpfhgnccpiildaaGreat

namespace Go.Pel
open Go Go.Tx
theorem q37n {α:Type} {P:α→Bool} {l:List α} {x:α} (hx:x∈l) (h:P x=false):l.countP P<l.length:=by
  induction l with
  | nil=>cases hx
  | cons y ys ih =>
    rw [List.countP_cons,List.length_cons]
    have:=List.countP_le_length (p:=P) (l:=ys)
    rcases List.mem_cons.1 hx with rfl | hx
    · rw [if_neg (by rw [h];decide)];omega
    · have := ih hx
      split<;>omega
theorem q37o {l:List T3} (h:FldOk l) {p:T3} {n dd:Int} {a:List T3} (ha:Crest l p n dd a) (hr:qcv n dd=0) (hp:Lead l n dd p):a.length≤l.length:=by
  have h1:=ha.len h hr hp
  have h2:q36f l p<l.length:=q37n hp.1 (by rw [decide_eq_false_iff_not];omega)
  omega
theorem q37p {l:List T3} (hl:l ≠ []) (h0:qfx (ptsL l)=0) {n dd:Int} (hr:qcv n dd=0):qrn (ptsL l) n dd=((ldT l n dd).1,0):=by
  obtain ⟨r,hr0⟩:=q364 hl n dd
  have hs:qrk (ptsL l) n dd=(qr8 n dd (ptsL l),0):=by
    unfold qrk
    rw [if_neg (show ¬ (qfx (ptsL l)≠0) by simpa using h0),if_neg (show ¬ (qcv n dd≠0) by simpa using hr)]
  unfold qrn
  rw [hs,if_neg (show ¬ ((0:Int)≠0) by decide)]
  show (match qr8 n dd (ptsL l) with | []=>((0:Int),(42:Int)) | p :: _=>(p.id,0))=_
  rw [quu (qg2 h0).2.2 (qd2 hr).1]
  cases ho:ordI n dd (ptsL l) with
  | nil=>rw [ho] at hr0;cases hr0
  | cons P s =>
    rw [ho] at hr0
    injection hr0 with e1 _
    show (P.id,(0:Int))=_
    rw [e1]
end Go.Pel
namespace Go.Proofs.YtpfhgnccpiildaaGreat
open Go Go.Tx Go.Pel
theorem q37r (d:Nat) {l:List T3} (hl:l ≠ []) (h0:qfx (ptsL l)=0) {n dd:Int} (hn:i64B n=true) (hd:i64B dd=true) (hr:qcv n dd=0):qw2 d ((l,()),(n,dd,()),())=some ((ldT l n dd).1,0):=by
  rw [qw3 _ _ (by unfold qw1;simp only [hn,hd,Bool.and_self])]
  show some ((qrn (ptsL l) n dd).1,(qrn (ptsL l) n dd).2)=_
  rw [q37p hl h0 hr]
theorem q37s (d:Nat) (l:List T3):qp4 d ((l,()),())=some (great l.length):=by
  rw [qp5 _ _ rfl]
  show some (great (ptsL l).length)=_
  rw [qil]
end Go.Proofs.YtpfhgnccpiildaaGreat

namespace Go.Pel
open Go Go.RowKit
end Go.Pel

namespace Go.Pel
open Go Go.Tx
def NxtI (l:List T3) (p:T3) (i:Nat) (is:Bool) (n dd:Int):Prop :=
  (is=false∧∀ k q,k<i→l[k]?=some q→¬ p.2.2.1<q.2.2.1) ∨
  (is=true∧(∃ j b m,j<i∧l[j]?=some b∧p.2.2.1<b.2.2.1∧mtP (p,b)=some m∧m.1=n∧m.2.1=dd)∧∀ k q m',k<i→l[k]?=some q→p.2.2.1<q.2.2.1→mtP (p,q)=some m'→¬ m'.1*dd<n*m'.2.1)
theorem NxtI.skip {l:List T3} {p:T3} {i:Nat} {is:Bool} {n dd:Int} (h:NxtI l p i is n dd) {q:T3} (hq:l[i]?=some q) (hs:¬ p.2.2.1<q.2.2.1):NxtI l p (i+1) is n dd:=by
  rcases h with ⟨h1,h2⟩ | ⟨h1,⟨j,b,m,h3,h4,h5⟩,h6⟩
  · refine .inl ⟨h1, fun k x hk hx => ?_⟩
    rcases (by omega:k<i∨k=i) with k' | rfl
    · exact h2 k x k' hx
    · rw [hq] at hx;injection hx with hx;subst hx;exact hs
  · refine .inr ⟨h1, ⟨j, b, m, by omega, h4, h5⟩, fun k x m' hk hx hf hm' => ?_⟩
    rcases (by omega:k<i∨k=i) with k' | rfl
    · exact h6 k x m' k' hx hf hm'
    · rw [hq] at hx;injection hx with hx;subst hx;exact absurd hf hs
theorem NxtI.take {l:List T3} (h:FldOk l) {p:T3} (hp:p∈l) {i:Nat} {is:Bool} {n dd:Int} (hN:NxtI l p i is n dd) {q:T3} (hq:l[i]?=some q) (hf:p.2.2.1<q.2.2.1) {m:M4} (hm:mtP (p,q)=some m) (hR:is=false∨m.1*dd<n*m.2.1):NxtI l p (i+1) true m.1 m.2.1:=by
  have hpo:=h.ok p hp
  have g1:=(q35d (x:=(p,q)) hpo (h.ok q (List.mem_of_getElem? hq)) hm).2.1
  have o1:=(qd2 g1).1
  refine .inr ⟨rfl,⟨i,q,m,by omega,hq,hf,hm,rfl,rfl⟩,fun k x m' hk hx hfx hm'=>?_⟩
  rcases (by omega:k<i∨k=i) with k' | rfl
  · rcases hN with ⟨_, h2⟩ | ⟨h1, ⟨j, b, mb, _, hb, _, hmb, rfl, rfl⟩, h6⟩
    · exact absurd hfx (h2 k x k' hx)
    · rcases hR with hR | hR
      · rw [h1] at hR;cases hR
      · have oX := (qd2 (q35d (x := (p, x)) hpo (h.ok x (List.mem_of_getElem? hx)) hm').2.1).1
        have oB:=(qd2 (q35d (x:=(p,b)) hpo (h.ok b (List.mem_of_getElem? hb)) hmb).2.1).1
        intro k1
        have:m'.1*mb.2.1<mb.1*m'.2.1:=q_lt oX o1 oB k1 (Int.le_of_lt hR)
        exact h6 k x m' k' hx hfx hm' this
  · rw [hq] at hx; injection hx with hx; subst hx
    rw [hm] at hm';injection hm' with hm';subst hm'
    omega
theorem NxtI.keep {l:List T3} {p:T3} {i:Nat} {n dd:Int} (hN:NxtI l p i true n dd) {q:T3} (hq:l[i]?=some q) {m:M4} (hm:mtP (p,q)=some m) (hR:¬ m.1*dd<n*m.2.1):NxtI l p (i+1) true n dd:=by
  rcases hN with ⟨h1,_⟩ | ⟨_,⟨j,b,mb,h3,h4⟩,h6⟩
  · cases h1
  · refine .inr ⟨rfl, ⟨j, b, mb, by omega, h4⟩, fun k x m' hk hx hfx hm' => ?_⟩
    rcases (by omega:k<i∨k=i) with k' | rfl
    · exact h6 k x m' k' hx hfx hm'
    · rw [hq] at hx; injection hx with hx; subst hx
      rw [hm] at hm';injection hm' with hm';subst hm'
      exact hR
theorem NxtI.no {l:List T3} {p:T3} {n dd:Int} (h:NxtI l p l.length false n dd):q368 l p:=by
  rcases h with ⟨_,h2⟩ | ⟨h1,_⟩
  · intro q hq
    obtain ⟨k,hk⟩:=List.mem_iff_getElem?.1 hq
    exact h2 k q (List.getElem?_eq_some_iff.1 hk).1 hk
  · cases h1
end Go.Pel
namespace Go.Proofs.YtpfhgnccpiildaaGreat
open Go Go.Tx Go.Pel
end Go.Proofs.YtpfhgnccpiildaaGreat

namespace Go.Pel
open Go Go.Tx
def fitQ (a b:Int):Int×Int×Int:=if a.natAbs≤9223372036854775807∧b.natAbs≤9223372036854775807 then (a,b,0) else (0,0,16)
def red (X D:Int):Int×Int×Int:=fitQ (X / (Nat.gcd X.natAbs D.natAbs:Nat)) (D / (Nat.gcd X.natAbs D.natAbs:Nat))
structure Low (X D a b:Int):Prop where
  pos:1≤b
  one:Nat.gcd a.natAbs b.natAbs=1
  eq:X*b=a*D
theorem Low.gcd {X D a b:Int} (hD:1≤D) (h:Low X D a b):X=a*(Nat.gcd X.natAbs D.natAbs:Nat)∧D=b*(Nat.gcd X.natAbs D.natAbs:Nat):=by
  obtain ⟨hb,h1,he⟩:=h
  have hn:X.natAbs*b.natAbs=a.natAbs*D.natAbs:=by rw [← Int.natAbs_mul,← Int.natAbs_mul,he]
  have k:b.natAbs ∣ D.natAbs:=Nat.Coprime.dvd_of_dvd_mul_left (k:=b.natAbs) (m:=a.natAbs) (n:=D.natAbs) (by rw [Nat.Coprime,Nat.gcd_comm];exact h1) ⟨X.natAbs,by rw [← hn,Nat.mul_comm]⟩
  obtain ⟨c,hc⟩:=k
  have e1:D=b*(c:Int):=by
    have e:(D.natAbs:Int)=(b.natAbs:Int)*(c:Int):=by rw [hc];simp
    rw [show (D.natAbs:Int)=D by omega,show (b.natAbs:Int)=b by omega] at e
    exact e
  have e2:X=a*(c:Int):=by
    rw [e1,← Int.mul_assoc,Int.mul_right_comm a b] at he
    exact Int.eq_of_mul_eq_mul_right (by omega) he
  have e3:Nat.gcd X.natAbs D.natAbs=c:=by
    rw [hc,e2,Int.natAbs_mul,Int.natAbs_natCast,Nat.gcd_mul_right,h1,Nat.one_mul]
  rw [e3]
  exact ⟨e2,e1⟩
theorem q386 {X D a b:Int} (hD:1≤D) (h:Low X D a b):red X D=fitQ a b:=by
  obtain ⟨e1,e2⟩:=h.gcd hD
  have hg:1≤Nat.gcd X.natAbs D.natAbs:=Nat.gcd_pos_of_pos_right _ (by omega)
  unfold red
  generalize Nat.gcd X.natAbs D.natAbs=g at *
  rw [e1,e2,Int.mul_ediv_cancel _ (by omega),Int.mul_ediv_cancel _ (by omega)]
theorem q387 (X:Int) {D:Int} (hD:1≤D):Low X D (X / (Nat.gcd X.natAbs D.natAbs:Nat)) (D / (Nat.gcd X.natAbs D.natAbs:Nat)):=by
  have hg:1≤Nat.gcd X.natAbs D.natAbs:=Nat.gcd_pos_of_pos_right _ (by omega)
  have e1:(X / (Nat.gcd X.natAbs D.natAbs:Nat))*(Nat.gcd X.natAbs D.natAbs:Nat)=X:=Int.ediv_mul_cancel (Int.ofNat_dvd_left.2 (Nat.gcd_dvd_left _ _))
  have e2:(D / (Nat.gcd X.natAbs D.natAbs:Nat))*(Nat.gcd X.natAbs D.natAbs:Nat)=D:=Int.ediv_mul_cancel (Int.ofNat_dvd_left.2 (Nat.gcd_dvd_right _ _))
  generalize hgg:Nat.gcd X.natAbs D.natAbs=g at *
  generalize X / (g:Int)=a at *
  generalize D / (g:Int)=b at *
  have hb:1≤b:=by
    rcases (by omega:1≤b∨b≤0) with h | h
    · exact h
    · have:=Int.mul_nonpos_of_nonpos_of_nonneg h (show (0:Int)≤(g:Int) by omega);omega
  refine ⟨hb,?_,?_⟩
  · have : Nat.gcd X.natAbs D.natAbs = Nat.gcd a.natAbs b.natAbs * g := by rw [← e1, ← e2, Int.natAbs_mul, Int.natAbs_mul, Int.natAbs_natCast, Nat.gcd_mul_right]
    rw [hgg] at this
    have h2:1*g=Nat.gcd a.natAbs b.natAbs*g:=by omega
    exact (Nat.eq_of_mul_eq_mul_right (by omega) h2).symm
  · rw [← e1,← e2,Int.mul_assoc,Int.mul_comm (g:Int) b]
theorem q388 {a b:Int} (h1:a.natAbs≤9223372036854775807) (h2:b.natAbs≤9223372036854775807):fitQ a b=(a,b,0):=by unfold fitQ;rw [if_pos ⟨h1,h2⟩]
theorem q389 {a b:Int} (h:¬ (a.natAbs≤9223372036854775807∧b.natAbs≤9223372036854775807)):fitQ a b=(0,0,16):=by unfold fitQ;rw [if_neg h]
theorem q38a (a b:Int):(fitQ a b=(a,b,0)∧a.natAbs≤9223372036854775807∧b.natAbs≤9223372036854775807)∨fitQ a b=(0,0,16):=by
  by_cases h:a.natAbs≤9223372036854775807∧b.natAbs≤9223372036854775807
  · exact .inl ⟨q388 h.1 h.2,h⟩
  · exact .inr (q389 h)
theorem q38b {X D:Int} (hD:1≤D) (h:(red X D).2.2=0):qcv (red X D).1 (red X D).2.1=0∧X*(red X D).2.1=(red X D).1*D∧(red X D).1.natAbs≤9223372036854775807∧(red X D).2.1≤9223372036854775807:=by
  have hl:=q387 X hD
  unfold red at h ⊢
  generalize X / ((Nat.gcd X.natAbs D.natAbs:Nat):Int)=a at *
  generalize D / ((Nat.gcd X.natAbs D.natAbs:Nat):Int)=b at *
  rcases q38a a b with ⟨e,k1,k2⟩ | e
  · rw [e]
    have:=hl.pos
    refine ⟨qcy hl.pos (by omega) ?_,hl.eq,k1,by show b≤_;omega⟩
    rw [Nat.gcd_comm,show b.toNat=b.natAbs by omega];exact hl.one
  · rw [e] at h;cases h
theorem q38d {an bn a' b' A:Int} (h1:Nat.gcd an.natAbs A.natAbs=1) (hA:a' ∣ A) (h2:Nat.gcd a'.natAbs b'.natAbs=1):Nat.gcd (an*b'+bn*a').natAbs a'.natAbs=1:=by
  generalize hk:Nat.gcd (an*b'+bn*a').natAbs a'.natAbs=k
  have d1:(k:Int) ∣ an*b'+bn*a':=by rw [← hk];exact Int.ofNat_dvd_left.2 (Nat.gcd_dvd_left _ _)
  have d2:(k:Int) ∣ a':=by rw [← hk];exact Int.ofNat_dvd_left.2 (Nat.gcd_dvd_right _ _)
  have d3:(k:Int) ∣ an*b':=by
    have:=Int.dvd_sub d1 (Int.dvd_trans d2 (Int.dvd_mul_left bn a'))
    rwa [show an*b'+bn*a' - bn*a'=an*b' by omega] at this
  have d3n:k ∣ an.natAbs*b'.natAbs:=by rw [← Int.natAbs_mul];exact Int.ofNat_dvd_left.1 d3
  have d2n:k ∣ a'.natAbs:=Int.ofNat_dvd_left.1 d2
  have c1:Nat.Coprime k b'.natAbs:=Nat.Coprime.coprime_dvd_left d2n h2
  have d4:k ∣ an.natAbs:=Nat.Coprime.dvd_of_dvd_mul_right c1 d3n
  have d5:k ∣ A.natAbs:=Nat.dvd_trans d2n (Int.natAbs_dvd_natAbs.2 hA)
  have:=Nat.dvd_gcd d4 d5
  rw [h1] at this
  exact Nat.dvd_one.1 this
theorem q38e {an ad bn bd g a' b':Int} (hg:1≤g) (ha:ad=a'*g) (hb:bd=b'*g) (pa:1≤a') (pb:1≤b') (h1:Nat.gcd an.natAbs ad.natAbs=1) (h2:Nat.gcd bn.natAbs bd.natAbs=1) (hc:Nat.gcd a'.natAbs b'.natAbs=1) {n m h c:Int} (hn:an*b'+bn*a'=n) (hh:(Nat.gcd n.natAbs g.natAbs:Int)=h) (hm:n=m*h) (hd:bd=c*h):Low (an*bd+bn*ad) (ad*bd) m (a'*c):=by
  have hg1:1≤Nat.gcd n.natAbs g.natAbs:=Nat.gcd_pos_of_pos_right _ (by omega)
  have hh1:1≤h:=by omega
  have c1:Nat.gcd n.natAbs a'.natAbs=1:=by rw [← hn];exact q38d h1 ⟨g,ha⟩ hc
  have c2:Nat.gcd n.natAbs b'.natAbs=1:=by
    rw [← hn,Int.add_comm]
    exact q38d h2 ⟨g,hb⟩ (by rw [Nat.gcd_comm];exact hc)
  have pc:1≤c:=by
    rcases (by omega:1≤c∨c≤0) with k | k
    · exact k
    · have := Int.mul_nonpos_of_nonpos_of_nonneg k (show (0 : Int) ≤ h by omega)
      have:=Int.mul_pos (show (0:Int)<b' by omega) (show (0:Int)<g by omega)
      omega
  -- c is b' times what is left of g
  have hgd:h ∣ g:=by rw [← hh];exact Int.ofNat_dvd_left.2 (Nat.gcd_dvd_right _ _)
  obtain ⟨e,he⟩:=hgd
  have hce:c=b'*e:=by
    have:c*h=(b'*e)*h:=by rw [← hd,hb,he,Int.mul_assoc,Int.mul_comm e h]
    exact Int.eq_of_mul_eq_mul_right (by omega) this
  have mdn:m.natAbs ∣ n.natAbs:=⟨h.natAbs,by rw [hm,Int.natAbs_mul]⟩
  have k1:Nat.Coprime m.natAbs a'.natAbs:=Nat.Coprime.coprime_dvd_left mdn c1
  have k2:Nat.Coprime m.natAbs b'.natAbs:=Nat.Coprime.coprime_dvd_left mdn c2
  have k3:Nat.Coprime m.natAbs e.natAbs:=by
    have q1:n.natAbs=m.natAbs*h.natAbs:=by rw [hm,Int.natAbs_mul]
    have q2:g.natAbs=e.natAbs*h.natAbs:=by rw [he,Int.natAbs_mul,Nat.mul_comm]
    have q3:Nat.gcd n.natAbs g.natAbs=h.natAbs:=by omega
    rw [q1,q2,Nat.gcd_mul_right] at q3
    have q4:Nat.gcd m.natAbs e.natAbs*h.natAbs=1*h.natAbs:=by omega
    exact Nat.eq_of_mul_eq_mul_right (by omega) q4
  refine ⟨?_,?_,?_⟩
  · have:=Int.mul_pos (show (0:Int)<a' by omega) (show (0:Int)<c by omega);omega
  · rw [hce, Int.natAbs_mul, Int.natAbs_mul]
    exact Nat.Coprime.mul_right k1 (Nat.Coprime.mul_right k2 k3)
  · have x1 : an * bd + bn * ad = n * g := by rw [← hn, ha, hb, Int.add_mul, Int.mul_assoc, Int.mul_assoc]
    rw [x1,hd,ha,hm]
    have:m*h*g*(a'*c)=m*(a'*g*(c*h)):=by
      rw [Int.mul_assoc m h g,Int.mul_assoc m]
      congr 1
      rw [Int.mul_comm h g,Int.mul_assoc,Int.mul_comm a' g,Int.mul_assoc g a',Int.mul_left_comm h a' c,Int.mul_comm h c]
    exact this
end Go.Pel

namespace Go.Pel
def dg (u c y:Int):Int:=(u*4294967296+c) / y
theorem q38f {u c y:Int} (hu:0≤u) (huy:u<y) (hc:0≤c) (hcB:c<4294967296):0≤dg u c y∧dg u c y<4294967296:=by
  unfold dg
  refine ⟨Int.ediv_nonneg (by omega) (by omega),?_⟩
  exact Int.ediv_lt_of_lt_mul (by omega) (by omega)
theorem q38g {u c y q:Int} (hy:0<y) (h:q*y≤u*4294967296+c):q≤dg u c y:=Int.le_ediv_of_mul_le hy h
theorem q38h {u c y q:Int} (hy:0<y) (h:u*4294967296+c<q*y):dg u c y<q:=Int.ediv_lt_of_lt_mul hy h
theorem q38i {q y1 y0:Int}:q*(y1*4294967296+y0)=(q*y1)*4294967296+q*y0:=by
  rw [Int.mul_add,Int.mul_assoc]
theorem q38j {u c y1 y0:Int} (hu:0≤u) (hc:0≤c) (hcB:c<4294967296) (hy1:0<y1) (hy0:0≤y0):dg u c (y1*4294967296+y0)≤u / y1:=by
  have hy:0<y1*4294967296+y0:=by omega
  have h0:0≤dg u c (y1*4294967296+y0):=Int.ediv_nonneg (by omega) (by omega)
  have h1:dg u c (y1*4294967296+y0)*(y1*4294967296+y0)≤u*4294967296+c:=Int.ediv_mul_le _ (by omega)
  rw [q38i] at h1
  have h2:0≤dg u c (y1*4294967296+y0)*y0:=Int.mul_nonneg h0 hy0
  exact Int.le_ediv_of_mul_le hy1 (by omega)
theorem q38k {u c y1 y0 q r:Int} (hu:0≤u) (huy:u<y1*4294967296+y0) (hc:0≤c) (hcB:c<4294967296) (h:q*y1+r=u) (hq:4294967296≤q∨r*4294967296+c<q*y0):dg u c (y1*4294967296+y0)≤q - 1:=by
  rcases hq with hq | hq
  · have:=(q38f hu huy hc hcB).2;omega
  · have := q38h (u := u) (c := c) (y := y1 * 4294967296 + y0) (q := q) (by omega) (by rw [q38i]; omega)
    omega
theorem q38l {u c y1 y0 q r:Int} (hy:0<y1*4294967296+y0) (h:q*y1+r=u) (hq:q*y0≤r*4294967296+c) (hle:dg u c (y1*4294967296+y0)≤q):q=dg u c (y1*4294967296+y0):=by
  have:=q38g (u:=u) (c:=c) (y:=y1*4294967296+y0) (q:=q) hy (by rw [q38i];omega)
  omega
theorem q38m {u c y1 y0 q r:Int} (huy:u<y1*4294967296+y0) (hc:0≤c) (hy1:0<y1) (hy0:0≤y0) (hy0B:y0<4294967296) (h:q*y1+r=u) (hr:4294967296≤r) (hq0:0≤q) (hle:dg u c (y1*4294967296+y0)≤q):q=dg u c (y1*4294967296+y0):=by
  have hqB:q<4294967296:=by
    have h1:q*y1<4294967296*y1:=by omega
    exact Int.lt_of_mul_lt_mul_right h1 (by omega)
  have h2:q*y0≤4294967295*4294967295:=Int.mul_le_mul (by omega) (by omega) hy0 (by omega)
  exact q38l (by omega) h (by omega) hle
theorem q38n {u c e y:Int} (hy:0<y):(u*18446744073709551616+c*4294967296+e) / y=dg u c y*4294967296+dg (u*4294967296+c - dg u c y*y) e y ∧
    (u*18446744073709551616+c*4294967296+e) % y=(u*4294967296+c - dg u c y*y)*4294967296+e - dg (u*4294967296+c - dg u c y*y) e y*y:=by
  generalize hq:dg u c y=q
  generalize hr:u*4294967296+c - q*y=r
  have e1:u*18446744073709551616+c*4294967296+e=(r*4294967296+e)+(q*4294967296)*y:=by
    have:(q*4294967296)*y=(q*y)*4294967296:=by rw [Int.mul_right_comm]
    rw [this];omega
  unfold dg
  constructor
  · rw [e1,Int.add_mul_ediv_right _ _ (by omega)];omega
  · rw [e1,Int.add_mul_emod_self_right,Int.emod_def,Int.mul_comm y]
end Go.Pel

namespace Go.Pel
open Go Go.Tx
theorem wu64 {a:Int} (h:0≤a∧a<18446744073709551616):IntKind.wrap .u64 a=a:=by rw [IntKind.wrap_u64];omega
theorem wu8 {a:Int} (h:0≤a∧a<256):IntKind.wrap .u8 a=a:=by rw [IntKind.wrap_u8];omega
theorem q38o (x:Int) (n:Nat) (hn:n≤64):shrI .u64 x (n:Int)=x / (2 ^ n:Nat):=by
  unfold shrI
  rw [Int.toNat_natCast,show min n IntKind.u64.bits=n from Nat.min_eq_left hn,Int.fdiv_eq_ediv_of_nonneg _ (Int.pow_nonneg (by omega))]
  simp
theorem q38p (x:Int) (n:Nat) (hn:n≤64):shlI .u64 x (n:Int)=(x*(2 ^ n:Nat)) % 18446744073709551616:=by
  unfold shlI
  rw [Int.toNat_natCast,show min n IntKind.u64.bits=n from Nat.min_eq_left hn,IntKind.wrap_u64]
  simp
theorem q38q (x:Nat) (hx:x<18446744073709551616):andI .u64 (x:Int) 4294967295=((x % 4294967296:Nat):Int):=by
  unfold andI
  rw [show (BitVec.ofInt IntKind.u64.bits (x:Int) &&& BitVec.ofInt IntKind.u64.bits 4294967295).toNat=x % 4294967296 by
    rw [BitVec.toNat_and,BitVec.toNat_ofInt,BitVec.toNat_ofInt]
    rw [show (((x:Int) % ((2 ^ IntKind.u64.bits:Nat):Int)).toNat)=x by show ((x:Int) % 18446744073709551616).toNat=x;omega,show (((4294967295:Int) % ((2 ^ IntKind.u64.bits:Nat):Int)).toNat)=2 ^ 32 - 1 from rfl,Nat.and_two_pow_sub_one_eq_mod]]
  exact wu64 (by omega)
theorem or64 (a b s:Nat) (hb:b<2 ^ s) (h:2 ^ s*a+b<18446744073709551616):orI .u64 ((2 ^ s*a:Nat):Int) (b:Int)=((2 ^ s*a+b:Nat):Int):=by
  unfold orI
  have hb2:2 ^ s*a<18446744073709551616:=by omega
  rw [show (BitVec.ofInt IntKind.u64.bits ((2 ^ s*a:Nat):Int) ||| BitVec.ofInt IntKind.u64.bits (b:Int)).toNat=2 ^ s*a+b by
    rw [BitVec.toNat_or,BitVec.toNat_ofInt,BitVec.toNat_ofInt]
    rw [show ((((2 ^ s*a:Nat):Int) % ((2 ^ IntKind.u64.bits:Nat):Int)).toNat)=2 ^ s*a by show (((2 ^ s*a:Nat):Int) % 18446744073709551616).toNat=_;omega,show (((b:Int) % ((2 ^ IntKind.u64.bits:Nat):Int)).toNat)=b by show ((b:Int) % 18446744073709551616).toNat=_;omega]
    exact (Nat.two_pow_add_eq_or_of_lt hb a).symm]
  exact wu64 (by omega)
structure Hi64 (y n:Nat):Prop where
  n0:1≤n
  n64:n≤64
  lo:2 ^ (n - 1)≤y
  hi:y<2 ^ n
def len8:List Nat:=[0,1,2,2,3,3,3,3,4,4,4,4,4,4,4,4,5,5,5,5,5,5,5,5,5,5,5,5,5,5,5,5,6,6,6,6,6,6,6,6,6,6,6,6,6,6,6,6,6,6,6,6,6,6,6,6,6,6,6,6,6,6,6,6,7,7,7,7,7,7,7,7,7,7,7,7,7,7,7,7,7,7,7,7,7,7,7,7,7,7,7,7,7,7,7,7,7,7,7,7,7,7,7,7,7,7,7,7,7,7,7,7,7,7,7,7,7,7,7,7,7,7,7,7,7,7,7,7,8,8,8,8,8,8,8,8,8,8,8,8,8,8,8,8,8,8,8,8,8,8,8,8,8,8,8,8,8,8,8,8,8,8,8,8,8,8,8,8,8,8,8,8,8,8,8,8,8,8,8,8,8,8,8,8,8,8,8,8,8,8,8,8,8,8,8,8,8,8,8,8,8,8,8,8,8,8,8,8,8,8,8,8,8,8,8,8,8,8,8,8,8,8,8,8,8,8,8,8,8,8,8,8,8,8,8,8,8,8,8,8,8,8,8,8,8,8,8,8,8,8,8,8,8,8,8,8]
set_option maxRecDepth 100000 in
theorem q38r:∀ x:Nat,1≤x→x<256→Hi64 x (len8.getD x 0)∧len8.getD x 0≤8:=by
  have h:(List.range 256).all (fun x=>Nat.beq x 0 || (Nat.ble 1 (len8.getD x 0)&&Nat.ble (len8.getD x 0) 8&&Nat.ble (2 ^ (len8.getD x 0 - 1)) x&&Nat.blt x (2 ^ len8.getD x 0)))=true:=by kernel_rfl
  intro x h1 h2
  have:=List.all_eq_true.1 h x (List.mem_range.2 h2)
  rw [Bool.or_eq_true] at this
  rcases this with k | k
  · have:=Nat.eq_of_beq_eq_true k;omega
  · simp only [Bool.and_eq_true, Nat.ble_eq, Nat.blt_eq] at k
    exact ⟨⟨k.1.1.1,by omega,k.1.2,k.2⟩,k.1.1.2⟩
theorem q38s {y n k:Nat} (h:Hi64 (y / 2 ^ k) n) (hk:n+k≤64):Hi64 y (n+k):=by
  have hp:0<2 ^ k:=Nat.two_pow_pos k
  refine ⟨by have:=h.n0;omega,hk,?_,?_⟩
  · have h1 := Nat.mul_le_mul_right (2 ^ k) h.lo
    have h2:=Nat.div_mul_le_self y (2 ^ k)
    rw [← Nat.pow_add] at h1
    have:=h.n0
    rw [show n+k - 1=n - 1+k by omega];omega
  · rw [Nat.pow_add]
    exact Nat.lt_mul_of_div_lt h.hi hp |> fun q=>by simpa [Nat.mul_comm] using q
theorem q38t {hi lo S T U V:Nat} (hST:S*T=18446744073709551616) (hS:0<S) (hT:0<T) (hU:S*hi+lo / T=U) (hV:lo*S % 18446744073709551616=V):U*18446744073709551616+V=(hi*18446744073709551616+lo)*S:=by
  obtain ⟨p,hp⟩:∃ p,lo / T=p:=⟨_,rfl⟩
  obtain ⟨q,hq⟩:∃ q,lo % T=q:=⟨_,rfl⟩
  have h0:T*p+q=lo:=by rw [← hp,← hq];exact Nat.div_add_mod lo T
  have hqT:q<T:=by rw [← hq];exact Nat.mod_lt _ hT
  have e2:q*S<18446744073709551616:=by
    have:=Nat.mul_lt_mul_of_pos_right hqT hS
    rw [Nat.mul_comm T S,hST] at this;exact this
  have e1:lo*S=p*18446744073709551616+q*S:=by rw [← h0,Nat.add_mul,← hST,Nat.mul_comm T p,Nat.mul_assoc,Nat.mul_comm T S]
  have e3:U*18446744073709551616=hi*18446744073709551616*S+p*18446744073709551616:=by
    rw [← hU,hp,Nat.add_mul,Nat.mul_comm S hi,Nat.mul_right_comm]
  rw [Nat.add_mul,e1,e3,← hV,e1]
  generalize hi*18446744073709551616*S=H
  generalize q*S=Q at *
  omega
end Go.Pel
namespace Go.Proofs.YtpfhgnccpiildaaGreat
open Go Go.Tx Go.Pel
set_option maxRecDepth 100000 in
theorem str8 {x:Nat} (hx:x<256):∀ t:ByteArray,t.data.toList.map (fun b=>b.toNat)=len8→strB t (x:Int)=true∧q35 t (x:Int)=((len8.getD x 0:Nat):Int):=by
  intro t ht
  have hl:t.data.toList.length=256:=by
    have:=congrArg List.length ht
    rw [List.length_map] at this
    rw [this];rfl
  refine ⟨?_,?_⟩
  · unfold strB
    rw [hl]
    simp only [Bool.and_eq_true,decide_eq_true_eq,Nat.blt_eq];omega
  · unfold q35
    rw [Int.toNat_natCast]
    have hg:len8[x]?=(t.data.toList[x]?).map (fun b=>b.toNat):=by rw [← ht,List.getElem?_map]
    rw [List.getD_eq_getElem?_getD,hg,List.getElem?_eq_getElem (by omega)]
    rfl
set_option maxRecDepth 100000 in
theorem q38u (d:Nat) {x n:Nat} (h1:1≤x) (h2:x<256) (hn:n≤56):q1e6 d ((x:Int),(n:Int))=some ((len8.getD x 0+n:Nat):Int):=by
  unfold q1e6 q1e4
  have w8:IntKind.wrap .u8 (x:Int)=(x:Int):=wu8 (by omega)
  simp only [w8]
  have hs:=fun t ht=>str8 h2 t ht
  have hk:=(q38r x h1 h2).2
  rw [(hs _ (by kernel_rfl)).1,(hs _ (by kernel_rfl)).2]
  clear hs
  generalize len8.getD x 0=k at *
  have e1:IntKind.wrap .i64 (k:Int)=(k:Int):=IntWalk.i64_in _ (by omega)
  have e2:IntKind.wrap .i64 ((n:Int)+(k:Int))=((k+n:Nat):Int):=by rw [IntWalk.i64_in _ (by omega)];omega
  simp only [Dt.eval,cond_true,e1,e2]
theorem q38v (x k:Nat) (hk:k≤64):shrI .u64 (x:Int) (k:Int)=((x / 2 ^ k:Nat):Int):=by rw [q38o _ _ hk];simp
theorem q38w (d:Nat) {x n:Nat} (h1:1≤x) (h2:x<65536) (hn:n≤48):∃ m,Hi64 x m∧m≤16∧q1e7 d ((x:Int),(n:Int))=some ((m+n:Nat):Int):=by
  unfold q1e7
  simp only [q1dw,q1dy,q1e0,Dt.eval]
  by_cases h:256≤x
  · obtain ⟨k1, k2⟩ := q38r (x / 2 ^ 8) (by omega) (by omega)
    refine ⟨len8.getD (x / 2 ^ 8) 0+8,q38s k1 (by omega),by omega,?_⟩
    have c:decide ((x:Int)≥256)=true:=decide_eq_true (by omega)
    have e1:shrI .u64 (x:Int) (8:Int)=((x / 2 ^ 8:Nat):Int):=q38v x 8 (by omega)
    have e2:IntKind.wrap .i64 ((n:Int)+8)=((n+8:Nat):Int):=by rw [IntWalk.i64_in _ (by omega)];omega
    simp only [c,cond_true,e1,e2]
    rw [q38u d (by omega) (by omega) (by omega)]
    exact congrArg some (by omega)
  · obtain ⟨k1, k2⟩ := q38r x h1 (by omega)
    refine ⟨_,k1,by omega,?_⟩
    have c:decide ((x:Int)≥256)=false:=decide_eq_false (by omega)
    simp only [c,cond_false]
    exact q38u d h1 (by omega) (by omega)
theorem q38x (d:Nat) {x n:Nat} (h1:1≤x) (h2:x<4294967296) (hn:n≤32):∃ m,Hi64 x m∧m≤32∧q1e8 d ((x:Int),(n:Int))=some ((m+n:Nat):Int):=by
  unfold q1e8
  simp only [q1do,q1dq,q1ds,Dt.eval]
  by_cases h:65536≤x
  · obtain ⟨m, k1, k2, k3⟩ := q38w d (x := x / 2 ^ 16) (n := n + 16) (by omega) (by omega) (by omega)
    refine ⟨m+16,q38s k1 (by omega),by omega,?_⟩
    have c:decide ((x:Int)≥65536)=true:=decide_eq_true (by omega)
    have e1:shrI .u64 (x:Int) (16:Int)=((x / 2 ^ 16:Nat):Int):=q38v x 16 (by omega)
    have e2:IntKind.wrap .i64 ((n:Int)+16)=((n+16:Nat):Int):=by rw [IntWalk.i64_in _ (by omega)];omega
    simp only [c,cond_true,e1,e2]
    rw [k3]
    exact congrArg some (by omega)
  · obtain ⟨m, k1, k2, k3⟩ := q38w d (x := x) (n := n) h1 (by omega) (by omega)
    refine ⟨m,k1,by omega,?_⟩
    have c:decide ((x:Int)≥65536)=false:=decide_eq_false (by omega)
    simp only [c,cond_false]
    exact k3
theorem q38y (d:Nat) {x:Nat} (h1:1≤x) (h2:x<18446744073709551616):∃ m,Hi64 x m∧q1e9 d (((x:Int),()),())=some (m:Int):=by
  simp only [q1e9,q1d6,q1dc,q1dg,q1di,q1dk,Dt.eval]
  by_cases h:4294967296≤x
  · obtain ⟨m, k1, k2, k3⟩ := q38x d (x := x / 2 ^ 32) (n := 32) (by omega) (by omega) (by omega)
    refine ⟨m+32,q38s k1 (by omega),?_⟩
    have c:decide ((x:Int)≥4294967296)=true:=decide_eq_true (by omega)
    have e1:shrI .u64 (x:Int) (32:Int)=((x / 2 ^ 32:Nat):Int):=q38v x 32 (by omega)
    simp only [c,cond_true,e1]
    exact k3
  · obtain ⟨m, k1, k2, k3⟩ := q38x d (x := x) (n := 0) h1 (by omega) (by omega)
    refine ⟨m,k1,?_⟩
    have c:decide ((x:Int)≥4294967296)=false:=decide_eq_false (by omega)
    simp only [c,cond_false]
    exact k3
theorem q38z (d:Nat) {y:Nat} (h1:1≤y) (h2:y<18446744073709551616):∃ s:Nat,s≤63∧9223372036854775808≤y*2 ^ s∧y*2 ^ s<18446744073709551616∧q1er d (((y:Int),()),())=some (s:Int):=by
  obtain ⟨m,k,e⟩:=q38y d h1 h2
  have m1:=k.n0
  have m2:=k.n64
  refine ⟨64 - m,by omega,?_,?_,?_⟩
  · have := Nat.mul_le_mul_right (2 ^ (64 - m)) k.lo
    rw [← Nat.pow_add,show m - 1+(64 - m)=63 by omega] at this
    exact this
  · have := Nat.mul_lt_mul_of_pos_right k.hi (Nat.two_pow_pos (64 - m))
    rw [← Nat.pow_add,show m+(64 - m)=64 by omega] at this
    exact this
  · have w : IntKind.wrap .i64 ((64 : Int) - (m : Int)) = ((64 - m : Nat) : Int) := by rw [IntWalk.i64_in _ (by omega)]; omega
    simp only [q1er,q1eh,q1el,q1ep,Dt.eval,e,w]
abbrev dv9:Type:=Int×Int×Int×Int×Int×Int×Int×Int×Int
theorem q390 {q yn0 r u:Int} (hq:0≤q) (hq2:q<4294967296) (hy:0≤yn0) (hy2:yn0<4294967296) (hr:0≤r) (hr2:r<4294967296) (hu:0≤u) (hu2:u<4294967296) :
    decide (IntKind.wrap .u64 (q*yn0) > IntKind.wrap .u64 (IntKind.wrap .u64 (4294967296*r)+u))=decide (r*4294967296+u<q*yn0):=by
  have hp:q*yn0≤4294967295*4294967295:=Int.mul_le_mul (by omega) (by omega) hy (by omega)
  have hp0:=Int.mul_nonneg hq hy
  rw [wu64 (a:=q*yn0) (by omega),wu64 (a:=4294967296*r) (by omega),wu64 (by omega)]
  congr 1
  exact propext (by omega)
theorem q391 (d:Nat) {y s yn1 yn0 un0 q1 u:Int} (hy:y=yn1*4294967296+yn0) (h1:2147483648≤yn1) (h2:yn1<4294967296) (h3:0≤yn0) (h4:yn0<4294967296) (hc:0≤un0) (hc2:un0<4294967296) (hu:0≤u) (huy:u<y):∀ (f:Nat) (q r:Int),4294967296≤r+f*2147483648→r<4294967296→0≤r→q<18446744073709551616→q*yn1+r=u→dg u un0 y≤q →
    ∃ r',iter (q1hq d) f ((y,s,yn1,yn0,un0,q1,r,u,q):dv9)=q1hp d (y,s,yn1,yn0,un0,q1,r',u,dg u un0 y)
  | 0,q,r,hf,hr,_,_,_,_=>by omega
  | f + 1, q, r, hf, hr, hr0, hqM, he, hle => by
    have ih:=q391 d (s:=s) (q1:=q1) hy h1 h2 h3 h4 hc hc2 hu huy f
    obtain ⟨g1,g2⟩:=q38f hu huy hc hc2
    rw [iter]
    revert ih
    generalize iter (q1hq d) f=self
    intro ih
    unfold q1hq
    simp only [q1hd,q1hf,q1hh,q1hl,Dt.eval]
    have hy0:0<yn1*4294967296+yn0:=by omega
    have dec:4294967296≤q∨r*4294967296+un0<q*yn0→∃ r',(bif decide (IntKind.wrap .u64 (r+yn1)≥4294967296) then q1hp d (y,s,yn1,yn0,un0,q1,IntKind.wrap .u64 (r+yn1),u,IntKind.wrap .u64 (q - 1)) else self (y,s,yn1,yn0,un0,q1,IntKind.wrap .u64 (r+yn1),u,IntKind.wrap .u64 (q - 1)))=q1hp d (y,s,yn1,yn0,un0,q1,r',u,dg u un0 y):=fun hq=>by
      have hd:=q38k (u:=u) (c:=un0) (y1:=yn1) (y0:=yn0) (q:=q) (r:=r) hu (by omega) hc hc2 he hq
      rw [← hy] at hd
      have e2:(q - 1)*yn1+(r+yn1)=u:=by rw [Int.sub_mul,Int.one_mul];omega
      rw [wu64 (a:=r+yn1) (by omega),wu64 (a:=q - 1) (by omega)]
      by_cases hb:r+yn1≥4294967296
      · have := q38m (u := u) (c := un0) (y1 := yn1) (y0 := yn0) (q := q - 1) (r := r + yn1) (by omega) hc (by omega) h3 h4 e2 hb (by omega) (by rw [← hy]; exact hd)
        rw [← hy] at this
        rw [decide_eq_true hb,cond_true,this]
        exact ⟨_,rfl⟩
      · rw [decide_eq_false hb, cond_false]
        exact ih (q - 1) (r+yn1) (by omega) (by omega) (by omega) (by omega) e2 hd
    by_cases hq:q≥4294967296
    · simp only [decide_eq_true hq, cond_true, Dt.eval]
      exact dec (.inl hq)
    · simp only [decide_eq_false hq, cond_false, Dt.eval, q390 (show 0 ≤ q by omega) (show q < 4294967296 by omega) h3 h4 hr0 hr hc hc2]
      by_cases ht:r*4294967296+un0<q*yn0
      · simp only [decide_eq_true ht, cond_true]
        exact dec (.inr ht)
      · have := q38l (u := u) (c := un0) (y1 := yn1) (y0 := yn0) (q := q) (r := r) hy0 he (by omega) (by rw [← hy]; exact hle)
        rw [← hy] at this
        simp only [decide_eq_false ht,cond_false]
        rw [this]
        exact ⟨_,rfl⟩
theorem q392 (d:Nat) {y s yn1 yn0 un1 un0 u:Int} (hy:y=yn1*4294967296+yn0) (h1:2147483648≤yn1) (h2:yn1<4294967296) (h3:0≤yn0) (h4:yn0<4294967296) (hc:0≤un1) (hc2:un1<4294967296) (hu:0≤u) (huy:u<y):∀ (f:Nat) (q r:Int),4294967296≤r+f*2147483648→r<4294967296→0≤r→q<18446744073709551616→q*yn1+r=u→dg u un1 y≤q →
    ∃ r',iter (q1hs d) f ((y,s,yn1,yn0,u,un1,un0,q,r):dv9)=q1hr d (y,s,yn1,yn0,u,un1,un0,dg u un1 y,r')
  | 0,q,r,hf,hr,_,_,_,_=>by omega
  | f + 1, q, r, hf, hr, hr0, hqM, he, hle => by
    have ih:=q392 d (s:=s) (un0:=un0) hy h1 h2 h3 h4 hc hc2 hu huy f
    obtain ⟨g1,g2⟩:=q38f hu huy hc hc2
    rw [iter]
    revert ih
    generalize iter (q1hs d) f=self
    intro ih
    unfold q1hs
    simp only [q1gp,q1gr,q1gt,q1gx,Dt.eval]
    have hy0:0<yn1*4294967296+yn0:=by omega
    have dec:4294967296≤q∨r*4294967296+un1<q*yn0→∃ r',(bif decide (IntKind.wrap .u64 (r+yn1)≥4294967296) then q1hr d (y,s,yn1,yn0,u,un1,un0,IntKind.wrap .u64 (q - 1),IntKind.wrap .u64 (r+yn1)) else self (y,s,yn1,yn0,u,un1,un0,IntKind.wrap .u64 (q - 1),IntKind.wrap .u64 (r+yn1)))=q1hr d (y,s,yn1,yn0,u,un1,un0,dg u un1 y,r'):=fun hq=>by
      have hd:=q38k (u:=u) (c:=un1) (y1:=yn1) (y0:=yn0) (q:=q) (r:=r) hu (by omega) hc hc2 he hq
      rw [← hy] at hd
      have e2:(q - 1)*yn1+(r+yn1)=u:=by rw [Int.sub_mul,Int.one_mul];omega
      rw [wu64 (a:=r+yn1) (by omega),wu64 (a:=q - 1) (by omega)]
      by_cases hb:r+yn1≥4294967296
      · have := q38m (u := u) (c := un1) (y1 := yn1) (y0 := yn0) (q := q - 1) (r := r + yn1) (by omega) hc (by omega) h3 h4 e2 hb (by omega) (by rw [← hy]; exact hd)
        rw [← hy] at this
        rw [decide_eq_true hb,cond_true,this]
        exact ⟨_,rfl⟩
      · rw [decide_eq_false hb, cond_false]
        exact ih (q - 1) (r+yn1) (by omega) (by omega) (by omega) (by omega) e2 hd
    by_cases hq:q≥4294967296
    · simp only [decide_eq_true hq, cond_true, Dt.eval]
      exact dec (.inl hq)
    · simp only [decide_eq_false hq, cond_false, Dt.eval, q390 (show 0 ≤ q by omega) (show q < 4294967296 by omega) h3 h4 hr0 hr hc hc2]
      by_cases ht:r*4294967296+un1<q*yn0
      · simp only [decide_eq_true ht, cond_true]
        exact dec (.inr ht)
      · have := q38l (u := u) (c := un1) (y1 := yn1) (y0 := yn0) (q := q) (r := r) hy0 he (by omega) (by rw [← hy]; exact hle)
        rw [← hy] at this
        simp only [decide_eq_false ht,cond_false]
        rw [this]
        exact ⟨_,rfl⟩
theorem q393 {u yn1:Int} (hu:0≤u) (hu2:u<18446744073709551616) (h1:2147483648≤yn1):IntKind.wrap .u64 (Int.tdiv u yn1)=u / yn1∧IntKind.wrap .u64 (u - IntKind.wrap .u64 (u / yn1*yn1))=u % yn1:=by
  have q0:=Int.ediv_nonneg hu (show (0:Int)≤yn1 by omega)
  have q1:=Int.ediv_le_self yn1 hu
  have q2:u / yn1*yn1≤u:=Int.ediv_mul_le _ (by omega)
  have q3:=Int.mul_nonneg q0 (show (0:Int)≤yn1 by omega)
  have q4:u / yn1*yn1+u % yn1=u:=by have:=Int.ediv_mul_add_emod u yn1;omega
  have q5:=Int.emod_nonneg u (show yn1≠0 by omega)
  refine ⟨by rw [Int.tdiv_eq_ediv_of_nonneg hu,wu64 (by omega)],?_⟩
  rw [wu64 (a:=u / yn1*yn1) (by omega),wu64 (by omega)];omega
theorem q394 (d:Nat) (hd:10≤d) {y yn1 yn0 un1 un0 u q1 r:Int} {s:Nat} (hs:s≤63) (hy:y=yn1*4294967296+yn0) (h1:2147483648≤yn1) (h2:yn1<4294967296) (h3:0≤yn0) (h4:yn0<4294967296) (hc:0≤un1) (hc2:un1<4294967296) (he:0≤un0) (he2:un0<4294967296) (hu:0≤u) (huy:u<y) (hq:q1=dg u un1 y) :
    q1hr d (y,(s:Int),yn1,yn0,u,un1,un0,q1,r)=some ((u*18446744073709551616+un1*4294967296+un0) / y,((u*18446744073709551616+un1*4294967296+un0) % y) / (2 ^ s:Nat)):=by
  have hy0:0<y:=by omega
  obtain ⟨t1,t2⟩:=q38n (u:=u) (c:=un1) (e:=un0) hy0
  obtain ⟨a1,a2⟩:=q38f hu huy hc hc2
  rw [← hq] at t1 t2 a1 a2
  -- what is left behind the first digit
  have m0:0≤u*4294967296+un1 - q1*y∧u*4294967296+un1 - q1*y<y:=by
    have e:u*4294967296+un1 - q1*y=(u*4294967296+un1) % y:=by
      rw [hq];unfold dg
      have:=Int.ediv_mul_add_emod (u*4294967296+un1) y
      omega
    rw [e];exact ⟨Int.emod_nonneg _ (by omega),Int.emod_lt_of_pos _ hy0⟩
  have w1:IntKind.wrap .u64 (IntKind.wrap .u64 (IntKind.wrap .u64 (u*4294967296)+un1) - IntKind.wrap .u64 (q1*y))=u*4294967296+un1 - q1*y:=by
    rw [IntKind.wrap_u64,IntKind.wrap_u64,IntKind.wrap_u64,IntKind.wrap_u64]
    generalize q1*y=P at *
    omega
  generalize hu2:u*4294967296+un1 - q1*y=v at *
  obtain ⟨f1,f2⟩:=q393 m0.1 (show v<18446744073709551616 by omega) h1
  have c1:(yn1 == (0:Int))=false:=by rw [beq_eq_false_iff_ne];omega
  have hv4:v % yn1<yn1:=Int.emod_lt_of_pos _ (by omega)
  have hv5:=Int.emod_nonneg v (show yn1≠0 by omega)
  have hv6:v / yn1*yn1+v % yn1=v:=by have:=Int.ediv_mul_add_emod v yn1;omega
  have hv7:=Int.ediv_le_self yn1 m0.1
  have hini:=q38j (u:=v) (c:=un0) (y1:=yn1) (y0:=yn0) m0.1 he he2 (by omega) h3
  rw [← hy] at hini
  obtain ⟨r',hL⟩:=q391 d (s:=(s:Int)) (q1:=q1) hy h1 h2 h3 h4 he he2 m0.1 m0.2 d (v / yn1) (v % yn1) (by omega) (by omega) hv5 (by omega) hv6 hini
  unfold q1hr
  simp only [q1h1,q1h5,q1h9,Dt.eval,w1,c1,cond_false,f1,f2]
  rw [hL]
  obtain ⟨b1,b2⟩:=q38f m0.1 m0.2 he he2
  unfold q1hp
  have c2:decide ((s:Int)<0)=false:=decide_eq_false (by omega)
  simp only [q1hn,Dt.eval,c2,cond_false]
  rw [t1,t2]
  have n0:0≤v*4294967296+un0 - dg v un0 y*y∧v*4294967296+un0 - dg v un0 y*y<y:=by
    have e:v*4294967296+un0 - dg v un0 y*y=(v*4294967296+un0) % y:=by
      unfold dg
      have:=Int.ediv_mul_add_emod (v*4294967296+un0) y
      omega
    rw [e];exact ⟨Int.emod_nonneg _ (by omega),Int.emod_lt_of_pos _ hy0⟩
  have w2:IntKind.wrap .u64 (IntKind.wrap .u64 (IntKind.wrap .u64 (v*4294967296)+un0) - IntKind.wrap .u64 (dg v un0 y*y))=v*4294967296+un0 - dg v un0 y*y:=by
    rw [IntKind.wrap_u64,IntKind.wrap_u64,IntKind.wrap_u64,IntKind.wrap_u64]
    generalize dg v un0 y*y=P at *
    omega
  rw [w2,q38o _ s (by omega),wu64 (a:=q1*4294967296) (by omega),wu64 (by omega)]
theorem q395 (d:Nat) (hd:10≤d) {hi lo y:Nat} (hy:hi<y) (hy2:y<18446744073709551616) (hlo:lo<18446744073709551616) :
    q1hv d (((hi:Int),()),((lo:Int),()),((y:Int),()),())=some ((((hi*18446744073709551616+lo) / y:Nat):Int),(((hi*18446744073709551616+lo) % y:Nat):Int)):=by
  have c1:((y:Int) == 0)=false:=by rw [beq_eq_false_iff_ne];omega
  have c2:decide ((y:Int)≤(hi:Int))=false:=by rw [decide_eq_false_iff_not];omega
  simp only [q1hv,q1ez,q1hu,q1ht,q1f3,q1f7,q1fb,q1ff,q1fj,Dt.eval,c1,c2,cond_false]
  by_cases h0:hi=0
  · subst h0
    have b:=Nat.div_le_self lo y
    have e0:(lo:Int).tdiv (y:Int)=((lo / y:Nat):Int):=by rw [Int.tdiv_eq_ediv_of_nonneg (by omega)];rfl
    have e1:(lo:Int).tmod (y:Int)=((lo % y:Nat):Int):=by rw [Int.tmod_eq_emod_of_nonneg (by omega)];rfl
    have w:IntKind.wrap .u64 ((lo / y:Nat):Int)=((lo / y:Nat):Int):=by
      generalize lo / y=q at *
      exact wu64 (by omega)
    simp only [show (((0:Nat):Int) == 0)=true from rfl,cond_true,e0,e1,w]
    rw [Nat.zero_mul,Nat.zero_add]
  · have c3 : ((hi : Int) == 0) = false := by rw [beq_eq_false_iff_ne]; omega
    obtain ⟨s,s1,s2,s3,es⟩:=q38z d (y:=y) (by omega) hy2
    have hS:0<2 ^ s:=Nat.two_pow_pos s
    have hST:2 ^ s*2 ^ (64 - s)=18446744073709551616:=by rw [← Nat.pow_add,show s+(64 - s)=64 by omega]
    have hT:0<2 ^ (64 - s):=Nat.two_pow_pos _
    have k1:hi*2 ^ s<y*2 ^ s:=Nat.mul_lt_mul_of_pos_right hy hS
    have k2:lo / 2 ^ (64 - s)<2 ^ s:=Nat.div_lt_of_lt_mul (by rw [Nat.mul_comm,hST];exact hlo)
    have k3:(hi+1)*2 ^ s≤y*2 ^ s:=Nat.mul_le_mul_right _ (by omega)
    rw [Nat.add_mul,Nat.one_mul] at k3
    have ws:IntKind.wrap .u64 (s:Int)=(s:Int):=wu64 (by omega)
    have ds:decide ((s:Int)<0)=false:=decide_eq_false (by omega)
    have wt:IntKind.wrap .u64 ((64:Int) - (s:Int))=((64 - s:Nat):Int):=by rw [wu64 (by omega)];omega
    have dt:decide (((64 - s:Nat):Int)<0)=false:=decide_eq_false (by omega)
    have x1:shlI .u64 (y:Int) (s:Int)=((y*2 ^ s:Nat):Int):=by
      rw [q38p _ _ (by omega),show (y:Int)*((2 ^ s:Nat):Int)=((y*2 ^ s:Nat):Int) by simp];omega
    have x2:shlI .u64 (hi:Int) (s:Int)=((2 ^ s*hi:Nat):Int):=by
      rw [q38p _ _ (by omega),show (hi:Int)*((2 ^ s:Nat):Int)=((2 ^ s*hi:Nat):Int) by rw [Nat.mul_comm];simp]
      rw [Nat.mul_comm];omega
    have x3:shrI .u64 (lo:Int) ((64 - s:Nat):Int)=((lo / 2 ^ (64 - s):Nat):Int):=by rw [q38o _ _ (by omega)];rfl
    have x4:orI .u64 ((2 ^ s*hi:Nat):Int) ((lo / 2 ^ (64 - s):Nat):Int)=((2 ^ s*hi+lo / 2 ^ (64 - s):Nat):Int):=or64 hi _ s k2 (by rw [Nat.mul_comm (2 ^ s) hi];omega)
    have x5:shlI .u64 (lo:Int) (s:Int)=((lo*2 ^ s % 18446744073709551616:Nat):Int):=by
      rw [q38p _ _ (by omega),show (lo:Int)*((2 ^ s:Nat):Int)=((lo*2 ^ s:Nat):Int) by simp];rfl
    obtain ⟨Y,hY⟩:∃ Y,y*2 ^ s=Y:=⟨_,rfl⟩
    obtain ⟨U,hU⟩:∃ U,2 ^ s*hi+lo / 2 ^ (64 - s)=U:=⟨_,rfl⟩
    obtain ⟨V,hV⟩:∃ V,lo*2 ^ s % 18446744073709551616=V:=⟨_,rfl⟩
    have hUY:U<Y:=by rw [← hU,← hY,Nat.mul_comm (2 ^ s) hi];omega
    have hV2:V<18446744073709551616:=by rw [← hV];exact Nat.mod_lt _ (by omega)
    have hX:U*18446744073709551616+V=(hi*18446744073709551616+lo)*2 ^ s:=q38t hST hS hT hU hV
    rw [hY] at x1 s2 s3
    rw [hU] at x4
    rw [hV] at x5
    have y1:shrI .u64 (Y:Int) (32:Int)=((Y / 4294967296:Nat):Int):=q38v Y 32 (by omega)
    have y2:andI .u64 (Y:Int) 4294967295=((Y % 4294967296:Nat):Int):=q38q Y s3
    have y3:shrI .u64 (V:Int) (32:Int)=((V / 4294967296:Nat):Int):=q38v V 32 (by omega)
    have y4:andI .u64 (V:Int) 4294967295=((V % 4294967296:Nat):Int):=q38q V hV2
    obtain ⟨f1,f2⟩:=q393 (u:=(U:Int)) (yn1:=((Y / 4294967296:Nat):Int)) (by omega) (by omega) (by omega)
    have cy:(((Y / 4294967296:Nat):Int) == 0)=false:=by rw [beq_eq_false_iff_ne];omega
    have hYe:(Y:Int)=((Y / 4294967296:Nat):Int)*4294967296+((Y % 4294967296:Nat):Int):=by omega
    have hini:=q38j (u:=(U:Int)) (c:=((V / 4294967296:Nat):Int)) (y1:=((Y / 4294967296:Nat):Int)) (y0:=((Y % 4294967296:Nat):Int)) (by omega) (by omega) (by omega) (by omega) (by omega)
    rw [← hYe] at hini
    have hv4:(U:Int) % ((Y / 4294967296:Nat):Int)<((Y / 4294967296:Nat):Int):=Int.emod_lt_of_pos _ (by omega)
    have hv5:=Int.emod_nonneg (U:Int) (show ((Y / 4294967296:Nat):Int)≠0 by omega)
    have hv6:(U:Int) / ((Y / 4294967296:Nat):Int)*((Y / 4294967296:Nat):Int)+(U:Int) % ((Y / 4294967296:Nat):Int)=(U:Int):=by have:=Int.ediv_mul_add_emod (U:Int) ((Y / 4294967296:Nat):Int);omega
    have hv7:=Int.ediv_le_self ((Y / 4294967296:Nat):Int) (show (0:Int)≤(U:Int) by omega)
    obtain ⟨r',hL⟩:=q392 d (s:=(s:Int)) (un0:=((V % 4294967296:Nat):Int)) hYe (by omega) (by omega) (by omega) (by omega) (show (0:Int)≤((V / 4294967296:Nat):Int) by omega) (by omega) (show (0:Int)≤(U:Int) by omega) (by omega) d _ _ (by omega) (by omega) hv5 (by omega) hv6 hini
    have hJ:=q394 d hd (r:=r') s1 hYe (by omega) (by omega) (by omega) (by omega) (show (0:Int)≤((V / 4294967296:Nat):Int) by omega) (by omega) (show (0:Int)≤((V % 4294967296:Nat):Int) by omega) (by omega) (show (0:Int)≤(U:Int) by omega) (by omega) rfl
    simp only [c3,cond_false,q1fn,q1fp,q1ft,q1fx,q1g1,q1g5,q1g9,q1gd,q1gh,q1gl,q1ez,Dt.eval,es,ws,ds,x1,y1,y2,wt,dt,x2,x3,x4,x5,y3,y4,cy,f1,f2]
    rw [hL,hJ]
    have hz:(U:Int)*18446744073709551616+((V / 4294967296:Nat):Int)*4294967296+((V % 4294967296:Nat):Int)=(((hi*18446744073709551616+lo)*2 ^ s:Nat):Int):=by rw [← hX];omega
    rw [hz,← hY]
    generalize hi*18446744073709551616+lo=X
    have r1:((X*2 ^ s:Nat):Int) / ((y*2 ^ s:Nat):Int)=((X / y:Nat):Int):=by
      show ((X*2 ^ s / (y*2 ^ s):Nat):Int)=_
      rw [Nat.mul_div_mul_right _ _ hS]
    have r2:((X*2 ^ s:Nat):Int) % ((y*2 ^ s:Nat):Int) / ((2 ^ s:Nat):Int)=((X % y:Nat):Int):=by
      show ((X*2 ^ s % (y*2 ^ s) / 2 ^ s:Nat):Int)=_
      rw [Nat.mul_mod_mul_right,Nat.mul_div_cancel _ hS]
    rw [r1,r2]
theorem q396 (d:Nat) (hd:10≤d) {hi lo y:Nat} (hy0:0<y) (hhi:hi<18446744073709551616) (hy2:y<18446744073709551616) (hlo:lo<18446744073709551616) :
    q1ih d (((hi:Int),()),((lo:Int),()),((y:Int),()),())=some (((hi*18446744073709551616+lo) % y:Nat):Int):=by
  have c1:((y:Int) == 0)=false:=by rw [beq_eq_false_iff_ne];omega
  have e1:(hi:Int).tmod (y:Int)=((hi % y:Nat):Int):=by rw [Int.tmod_eq_emod_of_nonneg (by omega)];rfl
  have e2:=q395 d hd (hi:=hi % y) (lo:=lo) (y:=y) (Nat.mod_lt _ hy0) hy2 hlo
  simp only [q1ih,q1i3,q1i7,q1ib,q1if,Dt.eval,c1,cond_false,e1,e2]
  refine congrArg (fun x:Nat=>some (x:Int)) ?_
  rw [Nat.add_mod,Nat.mul_mod,Nat.mod_mod,← Nat.mul_mod,← Nat.add_mod]
end Go.Proofs.YtpfhgnccpiildaaGreat

namespace Go.Pel
open Go Go.Tx
abbrev hiN (P:Nat):Int:=((P / 18446744073709551616:Nat):Int)
abbrev loN (P:Nat):Int:=((P % 18446744073709551616:Nat):Int)
theorem q397 {P y:Nat} (hy:0<y):P / y=(P / 18446744073709551616 / y)*18446744073709551616+((P / 18446744073709551616 % y)*18446744073709551616+P % 18446744073709551616) / y∧P % y=((P / 18446744073709551616 % y)*18446744073709551616+P % 18446744073709551616) % y:=by
  obtain ⟨h,hh⟩:∃ h,P / 18446744073709551616=h:=⟨_,rfl⟩
  obtain ⟨l,hl⟩:∃ l,P % 18446744073709551616=l:=⟨_,rfl⟩
  have hP:P=h*18446744073709551616+l:=by omega
  obtain ⟨q,hq⟩:∃ q,h / y=q:=⟨_,rfl⟩
  obtain ⟨r,hr⟩:∃ r,h % y=r:=⟨_,rfl⟩
  have hqr:y*q+r=h:=by rw [← hq,← hr];exact Nat.div_add_mod h y
  have e:P=(r*18446744073709551616+l)+y*(q*18446744073709551616):=by
    rw [hP,← hqr,Nat.add_mul,Nat.mul_assoc];omega
  rw [hh,hl,hq,hr]
  constructor
  · rw [e,Nat.add_mul_div_left _ _ hy];omega
  · rw [e,Nat.add_mul_mod_self_left]
theorem q398 {P y:Nat} (hy:0<y):((P / 18446744073709551616 % y)*18446744073709551616+P % 18446744073709551616) / y<18446744073709551616:=by
  rw [Nat.div_lt_iff_lt_mul hy]
  have h1:P / 18446744073709551616 % y<y:=Nat.mod_lt _ hy
  have h2:P % 18446744073709551616<18446744073709551616:=Nat.mod_lt _ (by omega)
  have h3:(P / 18446744073709551616 % y+1)*18446744073709551616≤y*18446744073709551616:=Nat.mul_le_mul_right _ h1
  rw [Nat.add_mul] at h3
  rw [Nat.mul_comm 18446744073709551616 y]
  omega
def sgn (s:Bool) (n:Nat):Int:=if s then -(n:Int) else n
theorem q399 (s:Bool) (n:Nat):(sgn s n).natAbs=n:=by unfold sgn;cases s<;>simp
theorem q39b {x y:Int} {s1 s2:Bool} {P Q:Nat} (hx:x=sgn s1 P) (hy:y=sgn s2 Q):x+y=(if s1=s2 then sgn s1 (P+Q) else if P<Q then sgn s2 (Q - P) else sgn s1 (P - Q)):=by
  subst hx hy
  unfold sgn
  cases s1<;>cases s2<;>simp<;>(try split)<;>omega
end Go.Pel
namespace Go.Proofs.YtpfhgnccpiildaaGreat
open Go Go.Tx Go.Pel
theorem q39c (d g:Nat) (a b:Nat) (hb:1≤b):iter (q1je d) (g+1) ((a:Int),(b:Int))=iter (q1je d) g ((b:Int),((a % b:Nat):Int)):=by
  rw [iter]
  generalize iter (q1je d) g=self
  unfold q1je
  have c1:decide ((b:Int) > 0)=true:=decide_eq_true (by omega)
  have c2:((b:Int) == 0)=false:=by rw [beq_eq_false_iff_ne];omega
  have e1:(a:Int).tmod (b:Int)=((a % b:Nat):Int):=by rw [Int.tmod_eq_emod_of_nonneg (by omega)];rfl
  simp only [q1j6,q1j8,q1jc,Dt.eval,c1,c2,cond_true,cond_false,e1]
theorem q39d (d g:Nat) (a:Nat):iter (q1je d) (g+1) ((a:Int),((0:Nat):Int))=some (a:Int):=by
  rw [iter]
  generalize iter (q1je d) g=self
  unfold q1je
  simp only [q1j6,q1j8,q1jc,Dt.eval,show decide (((0:Nat):Int) > 0)=false from rfl,cond_false]
theorem q39e {b r k:Nat} (h:b<2 ^ (k+1)) (hr:r<b) (h0:0<r):b % r<2 ^ k:=by
  rw [Nat.pow_succ] at h
  rcases Nat.lt_or_ge (b / 2) r with q | q
  · have : b % r = b - r := by rw [Nat.mod_eq_sub_mod (by omega)]; exact Nat.mod_eq_of_lt (by omega)
    omega
  · have:=Nat.mod_lt b h0;omega
theorem q39f (d:Nat):∀ (k f a b:Nat),b<2 ^ k→2*k+1≤f→iter (q1je d) f ((a:Int),(b:Int))=some ((Nat.gcd b a:Nat):Int)
  | 0, f, a, b, hb, hf => by
    obtain ⟨f,rfl⟩:∃ g,f=g+1:=⟨f - 1,by omega⟩
    obtain rfl:b=0:=by simpa using hb
    rw [q39d,Nat.gcd_zero_left]
  | k + 1, f, a, b, hb, hf => by
    obtain ⟨f,rfl⟩:∃ g,f=g+2:=⟨f - 2,by omega⟩
    rcases Nat.eq_zero_or_pos b with h | h
    · subst h
      rw [q39d,Nat.gcd_zero_left]
    · rw [q39c d (f + 1) a b h]
      have hr:=Nat.mod_lt a h
      have hg:Nat.gcd b a=Nat.gcd (a % b) b:=Nat.gcd_rec b a
      rw [hg]
      generalize a % b=r at *
      rcases Nat.eq_zero_or_pos r with h0 | h0
      · subst h0
        rw [q39d,Nat.gcd_zero_left]
      · rw [q39c d f b r h0,q39f d k f r (b % r) (q39e hb hr h0) (by omega),Nat.gcd_rec r b]
theorem q39g (d:Nat) (hd:200≤d) {a b:Nat} (hb:b<18446744073709551616):q1jf d (((a:Int),()),((b:Int),()),())=some ((Nat.gcd a b:Nat):Int):=by
  simp only [q1jf,q1j2,Dt.eval]
  rw [q39f d 64 d a b hb (by omega),Nat.gcd_comm]
theorem q39h {x y:Nat} {c:Nat} (hx:x<18446744073709551616) (hy:y<18446744073709551616) (hc:c≤1):q1ct (x:Int) (y:Int) (c:Int)=some ((((x+y+c) % 18446744073709551616:Nat):Int),(((x+y+c) / 18446744073709551616:Nat):Int)):=by
  unfold q1ct
  rw [show (decide ((0:Int)≤(x:Int))&&decide ((x:Int)<18446744073709551616)&&decide ((0:Int)≤(y:Int))&&decide ((y:Int)<18446744073709551616)&&decide ((0:Int)≤(c:Int))&&decide ((c:Int)≤1))=true by simp only [Bool.and_eq_true,decide_eq_true_eq];omega,cond_true]
  rfl
theorem q39i {x y c:Nat} (hx:x<18446744073709551616) (hy:y<18446744073709551616) (hc:c≤1):q1cu (x:Int) (y:Int) (c:Int)=some (((x:Int) - y - c) % 18446744073709551616,bif decide ((x:Int)<y+c) then 1 else 0):=by
  unfold q1cu
  rw [show (decide ((0:Int)≤(x:Int))&&decide ((x:Int)<18446744073709551616)&&decide ((0:Int)≤(y:Int))&&decide ((y:Int)<18446744073709551616)&&decide ((0:Int)≤(c:Int))&&decide ((c:Int)≤1))=true by simp only [Bool.and_eq_true,decide_eq_true_eq];omega,cond_true]
theorem q39j {P Q:Nat} (hP:P<340282366920938463463374607431768211456) (h:Q≤P):∃ b:Nat,b≤1∧q1cu (loN P) (loN Q) ((0:Nat):Int)=some (loN (P - Q),(b:Int))∧q1cu (hiN P) (hiN Q) (b:Int)=some (hiN (P - Q),0):=by
  by_cases hb:P % 18446744073709551616<Q % 18446744073709551616
  · refine ⟨1, Nat.le_refl _, ?_, ?_⟩
    · rw [q39i (by omega) (by omega) (by omega), show decide (((P % 18446744073709551616 : Nat) : Int) < ((Q % 18446744073709551616 : Nat) : Int) + ((0 : Nat) : Int)) = true by rw [decide_eq_true_eq]; omega, cond_true]
      refine congrArg some (Prod.ext ?_ rfl)
      show _=((_:Nat):Int)
      omega
    · rw [q39i (by omega) (by omega) (by omega), show decide (((P / 18446744073709551616 : Nat) : Int) < ((Q / 18446744073709551616 : Nat) : Int) + ((1 : Nat) : Int)) = false by rw [decide_eq_false_iff_not]; omega, cond_false]
      refine congrArg some (Prod.ext ?_ rfl)
      show _=((_:Nat):Int)
      omega
  · refine ⟨0, Nat.zero_le _, ?_, ?_⟩
    · rw [q39i (by omega) (by omega) (by omega), show decide (((P % 18446744073709551616 : Nat) : Int) < ((Q % 18446744073709551616 : Nat) : Int) + ((0 : Nat) : Int)) = false by rw [decide_eq_false_iff_not]; omega, cond_false]
      refine congrArg some (Prod.ext ?_ rfl)
      show _=((_:Nat):Int)
      omega
    · rw [q39i (by omega) (by omega) (by omega), show decide (((P / 18446744073709551616 : Nat) : Int) < ((Q / 18446744073709551616 : Nat) : Int) + ((0 : Nat) : Int)) = false by rw [decide_eq_false_iff_not]; omega, cond_false]
      refine congrArg some (Prod.ext ?_ rfl)
      show _=((_:Nat):Int)
      omega
theorem q39k {P Q:Nat} (hP:P<170141183460469231731687303715884105728) (hQ:Q<170141183460469231731687303715884105728):∃ c:Int,q1ct (loN P) (loN Q) 0=some (loN (P+Q),c)∧∃ c2:Int,q1ct (hiN P) (hiN Q) c=some (hiN (P+Q),c2):=by
  have a1:=q39h (x:=P % 18446744073709551616) (y:=Q % 18446744073709551616) (c:=0) (by omega) (by omega) (by omega)
  have a2:=q39h (x:=P / 18446744073709551616) (y:=Q / 18446744073709551616) (c:=(P % 18446744073709551616+Q % 18446744073709551616+0) / 18446744073709551616) (by omega) (by omega) (by omega)
  have r1:(P / 18446744073709551616+Q / 18446744073709551616+(P % 18446744073709551616+Q % 18446744073709551616+0) / 18446744073709551616) % 18446744073709551616=(P+Q) / 18446744073709551616:=by omega
  have r2:(P % 18446744073709551616+Q % 18446744073709551616+0) % 18446744073709551616=(P+Q) % 18446744073709551616:=by omega
  rw [r2] at a1
  rw [r1] at a2
  exact ⟨_,a1,_,a2⟩
theorem q39l (d:Nat) {s:Bool} {p1 p0 q1 q0 X1 X2 c c2:Int} (a1:q1ct p0 q0 0=some (X2,c)) (a2:q1ct p1 q1 c=some (X1,c2)):q1ks d ((s,p1,p0,()),(s,q1,q0,()),())=some (s,X1,X2):=by
  simp only [q1ks,q1jn,q1jt,q1jx,q1k1,q1k5,q1k9,Dt.eval,beq_self_eq_true,cond_true,a1,a2]
theorem q39m (d:Nat) {s1 s2:Bool} {p1 p0 q1 q0 X1 X2 z b c:Int} (c1:(s1 == s2)=false) (e1:q14o d ((s1,p1,p0,()),(s2,q1,q0,()),())=some z) (hz:decide (z<0)=true) (b1:q1cu q0 p0 0=some (X2,b)) (b2:q1cu q1 p1 b=some (X1,c)):q1ks d ((s1,p1,p0,()),(s2,q1,q0,()),())=some (s2,X1,X2):=by
  unfold q1ks q1kr
  simp only [q1ks,q1jn,q1jt,q1jx,q1k1,q1k5,q1k9,q1kd,q1kf,q1kj,q1kn,q1kp,Dt.eval,c1,cond_false,e1,hz,cond_true,b1,b2]
theorem q39n (d:Nat) {s1 s2:Bool} {p1 p0 q1 q0 X1 X2 z b c:Int} (c1:(s1 == s2)=false) (e1:q14o d ((s1,p1,p0,()),(s2,q1,q0,()),())=some z) (hz:decide (z<0)=false) (b1:q1cu p0 q0 0=some (X2,b)) (b2:q1cu p1 q1 b=some (X1,c)):q1ks d ((s1,p1,p0,()),(s2,q1,q0,()),())=some (s1,X1,X2):=by
  unfold q1ks q1kr
  simp only [q1ks,q1jn,q1jt,q1jx,q1k1,q1k5,q1k9,q1kd,q1kf,q1kj,q1kn,q1kp,Dt.eval,c1,cond_false,e1,hz,b1,b2]
theorem q39o (d:Nat) {s:Bool} {P Q:Nat} (hP:P<170141183460469231731687303715884105728) (hQ:Q<170141183460469231731687303715884105728):q1ks d ((s,hiN P,loN P,()),(s,hiN Q,loN Q,()),())=some (s,hiN (P+Q),loN (P+Q)):=by
  obtain ⟨c,a1,c2,a2⟩:=q39k hP hQ
  exact q39l d a1 a2
theorem q39p (d:Nat) {s1 s2:Bool} {P Q:Nat} (hQ:Q<170141183460469231731687303715884105728) (hs:s1≠s2) (h:P<Q):q1ks d ((s1,hiN P,loN P,()),(s2,hiN Q,loN Q,()),())=some (s2,hiN (Q - P),loN (Q - P)):=by
  obtain ⟨b,_,b1,b2⟩:=q39j (P:=Q) (Q:=P) (by omega) (by omega)
  exact q39m d (by simpa using hs) (q32n d s1 s2 P Q) (by rw [qkd (by omega)];rfl) b1 b2
theorem q39q (d:Nat) {s1 s2:Bool} {P Q:Nat} (hP:P<170141183460469231731687303715884105728) (hs:s1≠s2) (h:¬ P<Q):q1ks d ((s1,hiN P,loN P,()),(s2,hiN Q,loN Q,()),())=some (s1,hiN (P - Q),loN (P - Q)):=by
  obtain ⟨b,_,b1,b2⟩:=q39j (P:=P) (Q:=Q) (by omega) (by omega)
  exact q39n d (by simpa using hs) (q32n d s1 s2 P Q) (by
    rcases Nat.lt_or_eq_of_le (Nat.le_of_not_lt h) with k | k
    · rw [qke (by omega)];rfl
    · rw [qkf (by omega)];rfl) b1 b2
theorem q39r (d:Nat) {s1 s2:Bool} {P Q:Nat} (hP:P<170141183460469231731687303715884105728) (hQ:Q<170141183460469231731687303715884105728):q1ks d ((s1,hiN P,loN P,()),(s2,hiN Q,loN Q,()),())=some (if s1=s2 then (s1,hiN (P+Q),loN (P+Q)) else if P<Q then (s2,hiN (Q - P),loN (Q - P)) else (s1,hiN (P - Q),loN (P - Q))):=by
  by_cases hs:s1=s2
  · subst hs
    rw [if_pos rfl];exact q39o d hP hQ
  · rw [if_neg hs]
    by_cases h:P<Q
    · rw [if_pos h];exact q39p d hQ hs h
    · rw [if_neg h];exact q39q d hP hs h
theorem q39s (d:Nat) {s1 s2:Bool} {P Q:Nat} (hP:P<170141183460469231731687303715884105728) (hQ:Q<170141183460469231731687303715884105728):∃ s N,q1ks d ((s1,hiN P,loN P,()),(s2,hiN Q,loN Q,()),())=some (s,hiN N,loN N)∧sgn s1 P+sgn s2 Q=sgn s N∧N≤P+Q:=by
  have e:=q39r d (s1:=s1) (s2:=s2) hP hQ
  have k:=q39b (x:=sgn s1 P) (y:=sgn s2 Q) rfl rfl
  by_cases hs:s1=s2
  · rw [if_pos hs] at e k;exact ⟨_,_,e,k,Nat.le_refl _⟩
  · rw [if_neg hs] at e k
    by_cases h:P<Q
    · rw [if_pos h] at e k;exact ⟨_,_,e,k,by omega⟩
    · rw [if_neg h] at e k;exact ⟨_,_,e,k,by omega⟩
theorem q39t (d:Nat) (hd:10≤d) {s:Bool} {P y:Nat} (hP:P<340282366920938463463374607431768211456) (hy:0<y) (hy2:y<18446744073709551616):q1lk d ((s,hiN P,loN P,()),((y:Int),()),())=some (s,hiN (P / y),loN (P / y),((P % y:Nat):Int)):=by
  obtain ⟨o1,o2⟩:=q397 (P:=P) hy
  have o3:=q398 (P:=P) hy
  have hh:P / 18446744073709551616<18446744073709551616:=by omega
  have hl:P % 18446744073709551616<18446744073709551616:=by omega
  have c1:((y:Int) == 0)=false:=by rw [beq_eq_false_iff_ne];omega
  have b:=Nat.div_le_self (P / 18446744073709551616) y
  have e1:(hiN P).tdiv (y:Int)=((P / 18446744073709551616 / y:Nat):Int):=by rw [Int.tdiv_eq_ediv_of_nonneg (Int.natCast_nonneg _)];rfl
  have e2:(hiN P).tmod (y:Int)=((P / 18446744073709551616 % y:Nat):Int):=by rw [Int.tmod_eq_emod_of_nonneg (Int.natCast_nonneg _)];rfl
  have e3:IntKind.wrap .u64 ((P / 18446744073709551616 / y:Nat):Int)=((P / 18446744073709551616 / y:Nat):Int):=by
    generalize P / 18446744073709551616 / y=q at *
    exact wu64 (by omega)
  have e4:=q395 d hd (hi:=P / 18446744073709551616 % y) (lo:=P % 18446744073709551616) (y:=y) (Nat.mod_lt _ hy) hy2 hl
  rw [← o2] at e4
  simp only [q1lk,q1l0,q1l6,q1la,q1le,q1li,Dt.eval,c1,cond_false,e1,e2,e3]
  rw [show (loN P)=((P % 18446744073709551616:Nat):Int) from rfl,e4]
  simp only [Dt.eval]
  generalize (P / 18446744073709551616 % y*18446744073709551616+P % 18446744073709551616) / y=L at *
  generalize P / 18446744073709551616 / y=H at *
  rw [o1]
  refine congrArg some (Prod.ext rfl (Prod.ext ?_ (Prod.ext ?_ rfl)))
  · show (H:Int)=(((H*18446744073709551616+L) / 18446744073709551616:Nat):Int);omega
  · show (L:Int)=(((H*18446744073709551616+L) % 18446744073709551616:Nat):Int);omega
theorem q39u (d:Nat) {s:Bool} {N D:Nat} (hN:N<340282366920938463463374607431768211456) (hD:D<340282366920938463463374607431768211456):q1mn d ((s,hiN N,loN N,()),(hiN D,()),(loN D,()),())=some (fitQ (sgn s N) (D:Int)):=by
  have hf:fitQ (sgn s N) (D:Int)=if N≤9223372036854775807∧D≤9223372036854775807 then (sgn s N,(D:Int),0) else (0,0,16):=by
    unfold fitQ;rw [q399,Int.natAbs_natCast]
  rw [hf]
  by_cases h1:N≤9223372036854775807
  · have n1 : hiN N = 0 := by show ((_ : Nat) : Int) = 0; omega
    have n2:loN N=(N:Int):=by show ((_:Nat):Int)=_;omega
    by_cases h2:D≤9223372036854775807
    · have d1 : hiN D = 0 := by show ((_ : Nat) : Int) = 0; omega
      have d2:loN D=(D:Int):=by show ((_:Nat):Int)=_;omega
      rw [if_pos ⟨h1,h2⟩,n1,n2,d1,d2]
      have c1:decide ((N:Int) > 9223372036854775807)=false:=decide_eq_false (by omega)
      have c2:decide ((D:Int) > 9223372036854775807)=false:=decide_eq_false (by omega)
      have w1:IntKind.wrap .i64 (N:Int)=(N:Int):=IntWalk.i64_in _ (by omega)
      have w2:IntKind.wrap .i64 (D:Int)=(D:Int):=IntWalk.i64_in _ (by omega)
      have w3:IntKind.wrap .i64 (0 - (N:Int))=-(N:Int):=by rw [IntWalk.i64_in _ (by omega)];omega
      unfold q1mn q1mm
      cases s with
      | true=>simp only [q1mn,q1ls,q1ly,q1m2,q1m6,q1ma,q1me,q1mi,q1mk,Dt.eval,show decide ((0:Int) > 0)=false from rfl,cond_false,c1,c2,w1,w2,w3,cond_true];rfl
      | false=>simp only [q1mn,q1ls,q1ly,q1m2,q1m6,q1ma,q1me,q1mi,q1mk,Dt.eval,show decide ((0:Int) > 0)=false from rfl,cond_false,c1,c2,w1,w2];rfl
    · rw [if_neg (by omega), n1, n2]
      have c1:decide ((N:Int) > 9223372036854775807)=false:=decide_eq_false (by omega)
      unfold q1mn q1mm
      by_cases h3:hiN D > 0
      · simp only [q1mn,q1ls,q1ly,q1m2,q1m6,q1ma,q1me,q1mi,q1mk,Dt.eval,show decide ((0:Int) > 0)=false from rfl,cond_false,c1,decide_eq_true h3,cond_true]
      · have c2:decide (loN D > 9223372036854775807)=true:=decide_eq_true (by
          have h3':¬ ((D / 18446744073709551616:Nat):Int) > 0:=h3
          show ((D % 18446744073709551616:Nat):Int) > _
          omega)
        simp only [q1mn,q1ls,q1ly,q1m2,q1m6,q1ma,q1me,q1mi,q1mk,Dt.eval,show decide ((0:Int) > 0)=false from rfl,cond_false,c1,decide_eq_false h3,c2,cond_true]
  · rw [if_neg (by omega)]
    unfold q1mn q1mm
    by_cases h3:hiN N > 0
    · simp only [q1mn,q1ls,q1ly,q1m2,q1m6,q1ma,q1me,q1mi,q1mk,Dt.eval,decide_eq_true h3,cond_true]
    · have c2:decide (loN N > 9223372036854775807)=true:=decide_eq_true (by
        have h3':¬ ((N / 18446744073709551616:Nat):Int) > 0:=h3
        show ((N % 18446744073709551616:Nat):Int) > _
        omega)
      simp only [q1mn,q1ls,q1ly,q1m2,q1m6,q1ma,q1me,q1mi,q1mk,Dt.eval,decide_eq_false h3,cond_false,c2,cond_true]
end Go.Proofs.YtpfhgnccpiildaaGreat

namespace Go.Pel
open Go Go.Tx
theorem q39v (a b:Int):sgn (!((decide (a<0)) == (decide (b<0)))) (a*b).natAbs=a*b:=by
  unfold sgn
  rcases (by omega:a<0∨0≤a) with h1 | h1<;>rcases (by omega:b<0∨0≤b) with h2 | h2
  · have := Int.mul_nonneg_of_nonpos_of_nonpos (show a ≤ 0 by omega) (show b ≤ 0 by omega)
    simp only [h1,h2,decide_true,beq_self_eq_true,Bool.not_true,Bool.false_eq_true,if_false];omega
  · have := Int.mul_nonpos_of_nonpos_of_nonneg (show a ≤ 0 by omega) h2
    simp only [h1,show ¬ b<0 by omega,decide_true,decide_false,show (true == false)=false from rfl,Bool.not_false,if_true];omega
  · have := Int.mul_nonpos_of_nonneg_of_nonpos h1 (show b ≤ 0 by omega)
    simp only [h2,show ¬ a<0 by omega,decide_true,decide_false,show (false == true)=false from rfl,Bool.not_false,if_true];omega
  · have := Int.mul_nonneg h1 h2
    simp only [show ¬ a<0 by omega,show ¬ b<0 by omega,decide_false,beq_self_eq_true,Bool.not_true,Bool.false_eq_true,if_false];omega
theorem q39w {a b:Int} (ha:a.natAbs≤9223372036854775808) (hb:b.natAbs≤9223372036854775807):(a*b).natAbs≤85070591730234615856620279821087277056:=by
  rw [Int.natAbs_mul]
  exact Nat.le_trans (Nat.mul_le_mul ha hb) (by decide)
theorem q39x {a b:Nat} (ha:1≤a) (hb:1≤b):1≤Nat.gcd a b∧Nat.gcd a b≤a∧Nat.gcd a b≤b∧a=a / Nat.gcd a b*Nat.gcd a b∧b=b / Nat.gcd a b*Nat.gcd a b∧1≤a / Nat.gcd a b∧1≤b / Nat.gcd a b∧Nat.gcd (a / Nat.gcd a b) (b / Nat.gcd a b)=1:=by
  have hg:1≤Nat.gcd a b:=Nat.gcd_pos_of_pos_left _ ha
  have e1:a / Nat.gcd a b*Nat.gcd a b=a:=Nat.div_mul_cancel (Nat.gcd_dvd_left _ _)
  have e2:b / Nat.gcd a b*Nat.gcd a b=b:=Nat.div_mul_cancel (Nat.gcd_dvd_right _ _)
  exact ⟨hg,Nat.gcd_le_left _ ha,Nat.gcd_le_right _ hb,e1.symm,e2.symm,Nat.div_pos (Nat.gcd_le_left _ ha) hg,Nat.div_pos (Nat.gcd_le_right _ hb) hg,Nat.coprime_div_gcd_div_gcd hg⟩
theorem q39y {n1 n2:Int} {a b N:Nat} {s:Bool} (ha:1≤a) (hb:1≤b) (h1:Nat.gcd n1.natAbs a=1) (h2:Nat.gcd n2.natAbs b=1) (hN:n1*((b / Nat.gcd a b:Nat):Int)+n2*((a / Nat.gcd a b:Nat):Int)=sgn s N) :
    Low (n1*(b:Int)+n2*(a:Int)) ((a:Int)*(b:Int)) (sgn s (N / Nat.gcd N (Nat.gcd a b))) (((a / Nat.gcd a b*(b / Nat.gcd N (Nat.gcd a b)):Nat)):Int):=by
  obtain ⟨g1,g2,g3,ea,eb,pa,pb,hc⟩:=q39x ha hb
  generalize hg:Nat.gcd a b=g at *
  generalize ha':a / g=a' at *
  generalize hb':b / g=b' at *
  have hh1:1≤Nat.gcd N g:=Nat.gcd_pos_of_pos_right _ g1
  have hd1:Nat.gcd N g ∣ N:=Nat.gcd_dvd_left _ _
  have hd2:Nat.gcd N g ∣ b:=Nat.dvd_trans (Nat.gcd_dvd_right _ _) ⟨b',by rw [eb,Nat.mul_comm]⟩
  have e1:N / Nat.gcd N g*Nat.gcd N g=N:=Nat.div_mul_cancel hd1
  have e2:b / Nat.gcd N g*Nat.gcd N g=b:=Nat.div_mul_cancel hd2
  generalize hh:Nat.gcd N g=h at *
  generalize N / h=m at *
  generalize b / h=c at *
  have hm:sgn s N=sgn s m*(h:Int):=by
    rw [← e1];unfold sgn
    cases s
    · show ((m*h:Nat):Int)=(m:Int)*(h:Int);simp
    · show -((m*h:Nat):Int)=-(m:Int)*(h:Int);rw [Int.neg_mul];simp
  have:=q38e (an:=n1) (ad:=(a:Int)) (bn:=n2) (bd:=(b:Int)) (g:=(g:Int)) (a':=(a':Int)) (b':=(b':Int)) (by omega) (by rw [ea];simp) (by rw [eb];simp) (by omega) (by omega) (by rw [Int.natAbs_natCast];exact h1) (by rw [Int.natAbs_natCast];exact h2) (by rw [Int.natAbs_natCast,Int.natAbs_natCast];exact hc) (n:=sgn s N) (m:=sgn s m) (h:=(h:Int)) (c:=(c:Int)) hN (by rw [q399,Int.natAbs_natCast,hh]) hm (by rw [← e2];simp)
  rw [show ((a'*c:Nat):Int)=(a':Int)*(c:Int) by simp]
  exact this
end Go.Pel
namespace Go.Proofs.YtpfhgnccpiildaaGreat
open Go Go.Tx Go.Pel
theorem q39z {n d:Int} (h:qcv n d=0) (hn:i64B n=true) (hd:i64B d=true):∃ a:Nat,d=a∧1≤a∧a≤9223372036854775807∧n.natAbs≤9223372036854775807∧Nat.gcd n.natAbs a=1:=by
  obtain ⟨h1,h2,h3⟩:=qd2 h
  have hn:=qiq hn
  have hd:=qiq hd
  refine ⟨d.toNat,by omega,by omega,by omega,by omega,?_⟩
  rw [Nat.gcd_comm];exact h3
theorem i64N {a:Nat} (h:a≤9223372036854775807):i64B (a:Int)=true:=q33j (by omega)
theorem q3a0 (a g:Nat):(a:Int).tdiv (g:Int)=((a / g:Nat):Int):=by rw [Int.tdiv_eq_ediv_of_nonneg (by omega)];rfl
theorem q3a1 {a:Nat} (h:a<18446744073709551616):IntKind.wrap .u64 (a:Int)=(a:Int):=wu64 (by omega)
theorem q3a2 {a:Nat} (h:a≤9223372036854775807):IntKind.wrap .i64 (a:Int)=(a:Int):=IntWalk.i64_in _ (by omega)
theorem neN {a:Nat} (h:1≤a):((a:Int) == 0)=false:=by rw [beq_eq_false_iff_ne];omega
theorem q3a3 (d:Nat) {a b:Nat} (ha:a<18446744073709551616) (hb:b<18446744073709551616):qmd d (((a:Int),()),((b:Int),()),())=some (hiN (a*b),loN (a*b)):=by
  rw [qme _ _ (by unfold qmc u64B;simp only [Bool.and_eq_true,decide_eq_true_eq];omega)]
  refine congrArg some (Prod.ext ?_ ?_)
  · show ((a:Int)*(b:Int)) / 18446744073709551616=((a*b / 18446744073709551616:Nat):Int);simp
  · show ((a:Int)*(b:Int)) % 18446744073709551616=((a*b % 18446744073709551616:Nat):Int);simp
theorem q3a4 (d:Nat) {n:Int} {a:Nat} (hn:n.natAbs≤9223372036854775807) (ha:a≤9223372036854775807):q11s d ((n,()),((a:Int),()),())=some (!((decide (n<0)) == (decide ((a:Int)<0))),hiN (n*(a:Int)).natAbs,loN (n*(a:Int)).natAbs):=q32m d n a (q33j hn) (i64N ha)
theorem q3a5 {a g:Nat} (h:a≤9223372036854775807):a / g≤9223372036854775807:=Nat.le_trans (Nat.div_le_self _ _) h
theorem q3a6 (d:Nat) (hd:200≤d) {n1 d1 n2 d2:Int} (hn1:i64B n1=true) (hd1:i64B d1=true) (hn2:i64B n2=true) (hd2:i64B d2=true) (c1:qcv n1 d1=0) (c2:qcv n2 d2=0):q1o3 d ((n1,d1,()),(n2,d2,()),())=some (red (n1*d2+n2*d1) (d1*d2)):=by
  have e0:=q32o d n1 d1 n2 d2 hn1 hd1 hn2 hd2
  rw [c1,c2] at e0
  obtain ⟨a,rfl,a1,a2,a3,a4⟩:=q39z c1 hn1 hd1
  obtain ⟨b,rfl,b1,b2,b3,b4⟩:=q39z c2 hn2 hd2
  obtain ⟨g1,g2,g3,_,_,pa,pb,_⟩:=q39x a1 b1
  have hlow:=fun s N=>@q39y n1 n2 a b N s a1 b1 a4 b4
  have e1:=q39g d hd (a:=a) (b:=b) (by omega)
  have q1:=q3a5 (g:=Nat.gcd a b) a2
  have q2:=q3a5 (g:=Nat.gcd a b) b2
  generalize Nat.gcd a b=g at *
  have e2:=q3a4 d (n:=n1) (a:=b / g) a3 q2
  have e3:=q3a4 d (n:=n2) (a:=a / g) b3 q1
  have m1:=q39w (a:=n1) (b:=((b / g:Nat):Int)) (by omega) (by omega)
  have m2:=q39w (a:=n2) (b:=((a / g:Nat):Int)) (by omega) (by omega)
  have t1:=q3a0 b g
  have t2:=q3a0 a g
  have k1:=q39v n1 ((b / g:Nat):Int)
  have k2:=q39v n2 ((a / g:Nat):Int)
  generalize a / g=a' at *
  generalize b / g=b' at *
  generalize (!((decide (n1<0)) == (decide ((b':Int)<0))))=s1 at *
  generalize (!((decide (n2<0)) == (decide ((a':Int)<0))))=s2 at *
  obtain ⟨s,N,e4,hs,hN⟩:=q39s d (s1:=s1) (s2:=s2) (P:=(n1*(b':Int)).natAbs) (Q:=(n2*(a':Int)).natAbs) (by omega) (by omega)
  rw [k1,k2] at hs
  replace hlow:=hlow s N hs
  have hg64:g<18446744073709551616:=by omega
  have e5:=q39t d (by omega) (s:=s) (P:=N) (y:=g) (by omega) (by omega) hg64
  have e6:=q39g d hd (a:=g) (b:=N % g) (by have:=Nat.mod_lt N (show 0<g by omega);omega)
  rw [show Nat.gcd g (N % g)=Nat.gcd N g by rw [Nat.gcd_comm N g,Nat.gcd_rec g N,Nat.gcd_comm]] at e6
  have hh1:1≤Nat.gcd N g:=Nat.gcd_pos_of_pos_right _ g1
  have hh2:Nat.gcd N g≤g:=Nat.gcd_le_right _ (by omega)
  generalize Nat.gcd N g=h at *
  have e7:=q39t d (by omega) (s:=s) (P:=N) (y:=h) (by omega) (by omega) (by omega)
  have t3:=q3a0 b h
  have q3:=q3a5 (g:=h) b2
  have q4:N / h≤N:=Nat.div_le_self _ _
  generalize N / h=m at *
  generalize b / h=c at *
  have e8:=q3a3 d (a:=a') (b:=c) (by omega) (by omega)
  have m3:a'*c≤9223372036854775807*9223372036854775807:=Nat.mul_le_mul (by omega) (by omega)
  have e9:=q39u d (s:=s) (N:=m) (D:=a'*c) (by omega) (by omega)
  rw [q386 (by
    have:=Int.mul_pos (show (0:Int)<(a:Int) by omega) (show (0:Int)<(b:Int) by omega);omega) hlow]
  simp only [q1o3,q1mv,q1n1,q1n5,q1n9,q1nd,q1nh,q1nl,q1np,q1nt,q1nv,q1nz,q1o1,Dt.eval,e0,show tmax (0:Int) 0=0 from rfl,show ((0:Int) != 0)=false from rfl,cond_false,q3a1 (show a<18446744073709551616 by omega),q3a1 (show b<18446744073709551616 by omega),e1,q3a2 (show g≤9223372036854775807 by omega),neN g1,neN hh1,t1,t2,t3,q3a2 q1,q3a2 q2,e2,e3,e4,q3a1 hg64,e5,e6,e7,q3a1 (show a'<18446744073709551616 by omega),q3a1 (show c<18446744073709551616 by omega),e8,e9]
theorem q3a7 {n d:Int} (h:qcv n d=0) (hn:i64B n=true):qcv (-n) d=0∧i64B (-n)=true∧IntKind.wrap .i64 (0 - n)=-n:=by
  obtain ⟨h1,h2,h3⟩:=qd2 h
  have hn:=qiq hn
  refine ⟨qcy h1 (by omega) (by rw [Int.natAbs_neg];exact h3),q33j (by omega),?_⟩
  rw [IntWalk.i64_in _ (by omega)];omega
def subV (n1 d1 n2 d2:Int):Int×Int×Int:=if qcv n1 d1=0∧qcv n2 d2=0 then red (n1*d2 - n2*d1) (d1*d2) else (0,0,8)
theorem subC (d:Nat) (hd:200≤d) {n1 d1 n2 d2:Int} (hn1:i64B n1=true) (hd1:i64B d1=true) (hn2:i64B n2=true) (hd2:i64B d2=true):q1oz d ((n1,d1,()),(n2,d2,()),())=some (subV n1 d1 n2 d2):=by
  unfold subV
  have e0:=q32o d n1 d1 n2 d2 hn1 hd1 hn2 hd2
  by_cases hc:qcv n1 d1=0∧qcv n2 d2=0
  · rw [if_pos hc]
    rw [hc.1,hc.2] at e0
    obtain ⟨k1,k2,k3⟩:=q3a7 hc.2 hn2
    have e1:=q3a6 d hd hn1 hd1 k2 hd2 hc.1 k1
    rw [Int.neg_mul,show n1*d2 + -(n2*d1)=n1*d2 - n2*d1 by omega] at e1
    simp only [q1oz,q1ob,q1oh,q1ol,q1op,q1ot,q1ov,q1ox,Dt.eval,e0,show tmax (0:Int) 0=0 from rfl,show ((0:Int) != 0)=false from rfl,cond_false,k3,e1]
  · rw [if_neg hc]
    have e1:tmax (qcv n1 d1) (qcv n2 d2)=8:=by
      unfold tmax
      rcases qd1 n1 d1 with q1 | q1<;>rcases qd1 n2 d2 with q2 | q2
      · exact absurd ⟨q1,q2⟩ hc
      all_goals rw [q1,q2];rfl
    rw [e1] at e0
    simp only [q1oz,q1ob,q1oh,q1ol,q1op,q1ot,Dt.eval,e0,show ((8:Int) != 0)=true from rfl,cond_true]
def atQ (p:T3) (n dd:Int):Int×Int×Int:=if qd9 p.1 p.2.1 p.2.2.1=0∧qcv n dd=0 then red (p.2.1*dd+p.2.2.1*n) dd else (0,0,8)
theorem q3a8 (d:Nat) (hd10:10≤d) (neg:Bool) {D P:Nat} (hD:1≤D) (hD2:D≤9223372036854775807) (hP:P<170141183460469231731687303715884105728):∀ (k f a b:Nat),b<2 ^ k→2*k+1≤f→1≤a→a≤D→b≤D→Nat.gcd b a=Nat.gcd P D →
    iter (q1rk d) f (neg,(D:Int),(b:Int),(a:Int),(0:Int),(0:Int),hiN P,loN P)=some (fitQ (sgn neg (P / Nat.gcd P D)) ((D / Nat.gcd P D:Nat):Int)):=by
  have fin:∀ (f a:Nat),1≤f→1≤a→a≤D→a=Nat.gcd P D→iter (q1rk d) f (neg,(D:Int),((0:Nat):Int),(a:Int),(0:Int),(0:Int),hiN P,loN P)=some (fitQ (sgn neg (P / Nat.gcd P D)) ((D / Nat.gcd P D:Nat):Int)):=by
    intro f a hf ha haD hg
    obtain ⟨f,rfl⟩:∃ g,f=g+1:=⟨f - 1,by omega⟩
    rw [iter]
    unfold q1rk q1rj
    rw [← hg]
    obtain ⟨o1,o2⟩:=q397 (P:=P) (y:=a) (by omega)
    have o3:=q398 (P:=P) (y:=a) (by omega)
    have hh:P / 18446744073709551616<9223372036854775808:=by omega
    have w1:IntKind.wrap .u64 (hiN P)=hiN P:=wu64 (by show (0:Int)≤((_:Nat):Int)∧((_:Nat):Int)<_;omega)
    have t1:(hiN P).tdiv (a:Int)=((P / 18446744073709551616 / a:Nat):Int):=q3a0 _ _
    have t2:(hiN P).tmod (a:Int)=((P / 18446744073709551616 % a:Nat):Int):=by rw [Int.tmod_eq_emod_of_nonneg (Int.natCast_nonneg _)];rfl
    have e1:=q395 d hd10 (hi:=P / 18446744073709551616 % a) (lo:=P % 18446744073709551616) (y:=a) (Nat.mod_lt _ ha) (by omega) (Nat.mod_lt _ (by omega))
    have e1':q1hv d ((((P / 18446744073709551616 % a:Nat):Int),()),(loN P,()),((a:Int),()),())=_:=e1
    have qb:P / 18446744073709551616 / a≤P / 18446744073709551616:=Nat.div_le_self _ _
    have t3:=q3a0 D a
    have qD:D / a≤D:=Nat.div_le_self _ _
    generalize (P / 18446744073709551616 % a*18446744073709551616+P % 18446744073709551616) / a=L at *
    generalize P / 18446744073709551616 / a=H at *
    generalize D / a=E at *
    generalize P / a=Q at *
    have w2:=q3a1 (show H<18446744073709551616 by omega)
    have w3:=q3a1 (show E<18446744073709551616 by omega)
    have w4:=q3a2 (show E≤9223372036854775807 by omega)
    have hf:fitQ (sgn neg Q) (E:Int)=if Q≤9223372036854775807∧E≤9223372036854775807 then (sgn neg Q,(E:Int),0) else (0,0,16):=by
      unfold fitQ;rw [q399,Int.natAbs_natCast]
    rw [hf]
    by_cases h1:H=0
    · subst h1
      have hQ:Q=L:=by omega
      subst hQ
      by_cases h2:Q≤9223372036854775807
      · rw [if_pos ⟨h2, by omega⟩]
        have c1:decide ((Q:Int) > 9223372036854775807)=false:=decide_eq_false (by omega)
        have w5:=q3a2 h2
        have w6:IntKind.wrap .i64 (0 - (Q:Int))=-(Q:Int):=by rw [IntWalk.i64_in _ (by omega)];omega
        cases neg with
        | true=>simp only [q1qn,q1qp,q1qt,q1qx,q1r1,q1r3,q1r7,q1rb,q1rf,q1rh,q1p7,Dt.eval,show decide (((0:Nat):Int) > 0)=false from rfl,cond_false,neN ha,w1,t1,t2,w2,e1',c1,t3,w3,w4,w5,cond_true,w6];rfl
        | false=>simp only [q1qn,q1qp,q1qt,q1qx,q1r1,q1r3,q1r7,q1rb,q1rf,q1rh,q1p7,Dt.eval,show decide (((0:Nat):Int) > 0)=false from rfl,cond_false,neN ha,w1,t1,t2,w2,e1',c1,t3,w3,w4,w5];rfl
      · rw [if_neg (by omega)]
        have c1:decide ((Q:Int) > 9223372036854775807)=true:=decide_eq_true (by omega)
        simp only [q1qn,q1qp,q1qt,q1qx,q1r1,q1r3,q1r7,q1rb,q1rf,q1rh,q1p7,Dt.eval,show decide (((0:Nat):Int) > 0)=false from rfl,cond_false,neN ha,w1,t1,t2,w2,e1',c1,cond_true]
    · rw [if_neg (by omega)]
      have c1:decide ((H:Int) > 0)=true:=decide_eq_true (by omega)
      simp only [q1qn,q1qp,q1qt,q1qx,q1r1,q1r3,q1r7,q1rb,q1rf,q1rh,q1p7,Dt.eval,show decide (((0:Nat):Int) > 0)=false from rfl,cond_false,neN ha,w1,t1,t2,w2,e1',c1,cond_true]
  intro k
  induction k with
  | zero =>
    intro f a b hb hf ha haD hbD hg
    obtain rfl:b=0:=by simpa using hb
    rw [Nat.gcd_zero_left] at hg
    exact fin f a (by omega) ha haD hg
  | succ k ih =>
    intro f a b hb hf ha haD hbD hg
    rcases Nat.eq_zero_or_pos b with h | h
    · subst h
      rw [Nat.gcd_zero_left] at hg
      exact fin f a (by omega) ha haD hg
    · obtain ⟨f, rfl⟩ : ∃ g, f = g + 2 := ⟨f - 2, by omega⟩
      have step:∀ (g a b:Nat),1≤b→iter (q1rk d) (g+1) (neg,(D:Int),(b:Int),(a:Int),(0:Int),(0:Int),hiN P,loN P)=iter (q1rk d) g (neg,(D:Int),((a % b:Nat):Int),(b:Int),(0:Int),(0:Int),hiN P,loN P):=fun g a b hb=>by
        rw [iter]
        generalize iter (q1rk d) g=self
        unfold q1rk
        have c1:decide ((b:Int) > 0)=true:=decide_eq_true (by omega)
        have e1:(a:Int).tmod (b:Int)=((a % b:Nat):Int):=by rw [Int.tmod_eq_emod_of_nonneg (by omega)];rfl
        simp only [q1qn,q1qp,Dt.eval,c1,cond_true,neN hb,cond_false,e1]
      have hr:=Nat.mod_lt a h
      have hg1:Nat.gcd (a % b) b=Nat.gcd P D:=by rw [← hg,Nat.gcd_rec b a]
      rw [step (f+1) a b h]
      rcases Nat.eq_zero_or_pos (a % b) with h0 | h0
      · rw [h0] at hg1 ⊢
        rw [Nat.gcd_zero_left] at hg1
        exact fin (f+1) b (by omega) h hbD hg1
      · rw [step f b (a % b) h0]
        have hlt:b % (a % b)<2 ^ k:=q39e hb hr h0
        exact ih f (a % b) (b % (a % b)) hlt (by omega) h0 (by omega) (by have:=Nat.mod_lt b h0;omega) (by rw [← hg1,Nat.gcd_rec (a % b) b])
theorem atC (d:Nat) (hd:200≤d) (p:T3) {n dd:Int} (hn:i64B n=true) (hdd:i64B dd=true):q1rm d ((p.1,p.2.1,p.2.2.1,()),(n,dd,()),())=some (atQ p n dd):=by
  unfold atQ
  have e1:qnv d ((p.1,p.2.1,p.2.2.1,()),())=some (qd9 p.1 p.2.1 p.2.2.1):=qnw _ _ rfl
  have e2:qmv d ((n,dd,()),())=some (qcv n dd):=qmw _ _ (by unfold qmu;simp only [hn,hdd,Bool.and_self])
  by_cases hc:qd9 p.1 p.2.1 p.2.2.1=0∧qcv n dd=0
  · rw [if_pos hc]
    obtain ⟨_,_,a1,a2,a3,a4⟩:=qdd hc.1
    obtain ⟨D,rfl,D1,D2,n1,hg⟩:=q39z hc.2 hn hdd
    have m1:(p.2.1*(D:Int)).natAbs≤1048576*9223372036854775807:=by rw [Int.natAbs_mul];exact Nat.mul_le_mul (by omega) (by omega)
    have m2:(p.2.2.1*n).natAbs≤1048576*9223372036854775807:=by rw [Int.natAbs_mul];exact Nat.mul_le_mul (by omega) (by omega)
    have e3:q1ip d ((p.2.1,(D:Int),p.2.2.1,n,()),())=some ((p.2.1*(D:Int)+p.2.2.1*n) / 18446744073709551616,(p.2.1*(D:Int)+p.2.2.1*n) % 18446744073709551616):=q1iq _ _ (show sumB p.2.1 (D:Int) p.2.2.1 n=true from decide_eq_true ⟨by omega,by omega,by omega,by omega,by omega,by omega⟩)
    generalize hX:p.2.1*(D:Int)+p.2.2.1*n=X at *
    have hXb:X.natAbs<170141183460469231731687303715884105728:=by omega
    have hlow:Low X (D:Int) (sgn (decide (X<0)) (X.natAbs / Nat.gcd X.natAbs D)) ((D / Nat.gcd X.natAbs D:Nat):Int):=by
      have h1:1≤Nat.gcd X.natAbs D:=Nat.gcd_pos_of_pos_right _ D1
      have e1:X.natAbs / Nat.gcd X.natAbs D*Nat.gcd X.natAbs D=X.natAbs:=Nat.div_mul_cancel (Nat.gcd_dvd_left _ _)
      have e2:D / Nat.gcd X.natAbs D*Nat.gcd X.natAbs D=D:=Nat.div_mul_cancel (Nat.gcd_dvd_right _ _)
      have e3:Nat.gcd (X.natAbs / Nat.gcd X.natAbs D) (D / Nat.gcd X.natAbs D)=1:=Nat.coprime_div_gcd_div_gcd h1
      have e4:1≤D / Nat.gcd X.natAbs D:=Nat.div_pos (Nat.gcd_le_right _ D1) h1
      generalize Nat.gcd X.natAbs D=g at *
      generalize X.natAbs / g=u at *
      generalize D / g=v at *
      refine ⟨by omega,by rw [q399,Int.natAbs_natCast];exact e3,?_⟩
      have hs:X=sgn (decide (X<0)) (u*g):=by
        rw [e1];unfold sgn
        by_cases hx:X<0
        · rw [decide_eq_true hx,if_pos rfl];omega
        · rw [decide_eq_false hx,if_neg (by decide)];omega
      rw [← e2]
      generalize decide (X<0)=s at *
      rw [hs]
      unfold sgn
      cases s
      · show ((u * g : Nat) : Int) * (v : Int) = (u : Int) * ((v * g : Nat) : Int)
        rw [show ((u*g:Nat):Int)=(u:Int)*(g:Int) by simp,show ((v*g:Nat):Int)=(v:Int)*(g:Int) by simp,Int.mul_assoc,Int.mul_comm (g:Int)]
      · show -((u * g : Nat) : Int) * (v : Int) = -(u : Int) * ((v * g : Nat) : Int)
        rw [show ((u*g:Nat):Int)=(u:Int)*(g:Int) by simp,show ((v*g:Nat):Int)=(v:Int)*(g:Int) by simp,Int.neg_mul,Int.neg_mul,Int.mul_assoc,Int.mul_comm (g:Int)]
    rw [q386 (by omega) hlow]
    have e4:=q396 d (by omega) (hi:=X.natAbs / 18446744073709551616) (lo:=X.natAbs % 18446744073709551616) (y:=D) D1 (by omega) (by omega) (by omega)
    rw [show X.natAbs / 18446744073709551616*18446744073709551616+X.natAbs % 18446744073709551616=X.natAbs by omega] at e4
    have e4':q1ih d ((hiN X.natAbs,()),(loN X.natAbs,()),((D:Int),()),())=_:=e4
    have wh:IntKind.wrap .u64 (hiN X.natAbs)=hiN X.natAbs:=wu64 (by show (0:Int)≤((_:Nat):Int)∧((_:Nat):Int)<_;omega)
    have wD:=q3a1 (show D<18446744073709551616 by omega)
    have hloop:=q3a8 d (by omega) (decide (X<0)) D1 D2 hXb 64 d D (X.natAbs % D) (by have:=Nat.mod_lt X.natAbs D1;have:(2:Nat) ^ 64=18446744073709551616:=rfl;omega) (by omega) D1 (Nat.le_refl _) (Nat.le_of_lt (Nat.mod_lt _ D1)) (by rw [Nat.gcd_comm X.natAbs D,Nat.gcd_rec D X.natAbs])
    have z1:tmax (0:Int) 0=0:=rfl
    have z2:((0:Int) != 0)=false:=rfl
    rw [hc.1] at e1
    rw [hc.2] at e2
    simp only [q1pd,q1ph,q1pl,q1pp,q1pt,q1px,q1q1,q1q5,q1q7,q1qb,q1qf,q1qj,q1rm,q1p7,q1rl,Dt.eval,e1,e2,e3,z1,z2,cond_false]
    by_cases hx:X<0
    · have q1 : decide (X / 18446744073709551616 < 0) = true := decide_eq_true (by omega)
      have hs:∃ b:Int,q1cu 0 (X % 18446744073709551616) 0=some (loN X.natAbs,b)∧IntKind.wrap .i64 (IntKind.wrap .i64 (0 - X / 18446744073709551616) - IntKind.wrap .i64 b)=hiN X.natAbs:=by
        have hm:q1cu (((0:Nat):Int)) ((((X % 18446744073709551616).toNat:Nat):Int)) (((0:Nat):Int))=_:=q39i (x:=0) (y:=(X % 18446744073709551616).toNat) (c:=0) (by omega) (by omega) (by omega)
        rw [show (((X % 18446744073709551616).toNat:Nat):Int)=X % 18446744073709551616 by omega] at hm
        by_cases hl:X % 18446744073709551616=0
        · refine ⟨0, ?_, ?_⟩
          · refine Eq.trans (b := some _) hm ?_
            rw [show decide ((((0:Nat):Int))<X % 18446744073709551616+((0:Nat):Int))=false by rw [decide_eq_false_iff_not];omega,cond_false]
            refine congrArg some (Prod.ext ?_ rfl)
            show _=((_:Nat):Int);omega
          · rw [show IntKind.wrap .i64 (0 : Int) = 0 from rfl, IntWalk.i64_in (0 - X / 18446744073709551616) (by omega), IntWalk.i64_in _ (by omega)]
            show _=((_:Nat):Int);omega
        · refine ⟨1, ?_, ?_⟩
          · refine Eq.trans (b := some _) hm ?_
            rw [show decide ((((0:Nat):Int))<X % 18446744073709551616+((0:Nat):Int))=true by rw [decide_eq_true_eq];omega,cond_true]
            refine congrArg some (Prod.ext ?_ rfl)
            show _=((_:Nat):Int);omega
          · rw [show IntKind.wrap .i64 (1 : Int) = 1 by decide, IntWalk.i64_in (0 - X / 18446744073709551616) (by omega), IntWalk.i64_in _ (by omega)]
            show _=((_:Nat):Int);omega
      obtain ⟨bb,s1,s2⟩:=hs
      rw [decide_eq_true hx] at hloop ⊢
      simp only [q1,cond_true,s1,Dt.eval,s2,wD,wh,e4']
      exact hloop
    · have q1 : decide (X / 18446744073709551616 < 0) = false := decide_eq_false (by omega)
      have h1:X / 18446744073709551616=hiN X.natAbs:=by show _=((_:Nat):Int);omega
      have h2:X % 18446744073709551616=loN X.natAbs:=by show _=((_:Nat):Int);omega
      rw [decide_eq_false hx] at hloop ⊢
      simp only [q1,cond_false,h1,h2,Dt.eval,wD,wh,e4']
      exact hloop
  · rw [if_neg hc]
    have e3:tmax (qd9 p.1 p.2.1 p.2.2.1) (qcv n dd)=8:=by
      unfold tmax
      rcases qdc p.1 p.2.1 p.2.2.1 with q1 | q1<;>rcases qd1 n dd with q2 | q2
      · exact absurd ⟨q1,q2⟩ hc
      all_goals rw [q1,q2];rfl
    simp only [q1pd,q1ph,q1pl,q1pp,q1rm,q1p7,Dt.eval,e1,e2,e3,show ((8:Int) != 0)=true from rfl,cond_true]
end Go.Proofs.YtpfhgnccpiildaaGreat

namespace Go.Pel
open Go Go.Tx
end Go.Pel
namespace Go.Proofs.YtpfhgnccpiildaaGreat
open Go Go.Tx Go.Pel
theorem sgnD (x:Int):sgn (decide (x<0)) x.natAbs=x:=by
  unfold sgn
  by_cases h:x<0
  · rw [decide_eq_true h,if_pos rfl];omega
  · rw [decide_eq_false h,if_neg (by decide)];omega
end Go.Proofs.YtpfhgnccpiildaaGreat

namespace Go.Pel
open Go Go.Tx
theorem q3b7 {X D X' D':Int} (h1:1≤D) (h2:1≤D') (h:X*D'=X'*D):red X D=red X' D':=by
  have k:=q387 X h1
  have k2:Low X' D' (X / (Nat.gcd X.natAbs D.natAbs:Nat)) (D / (Nat.gcd X.natAbs D.natAbs:Nat)):=by
    generalize X / (Nat.gcd X.natAbs D.natAbs:Nat)=a at *
    generalize D / (Nat.gcd X.natAbs D.natAbs:Nat)=b at *
    obtain ⟨p,o,e⟩:=k
    refine ⟨p,o,?_⟩
    refine Int.eq_of_mul_eq_mul_right (a:=D) (by omega) ?_
    rw [Int.mul_right_comm,← h,Int.mul_right_comm,e,Int.mul_right_comm]
  rw [q386 h1 k,q386 h2 k2]
theorem q3b8 {n1 n2:Int} {a b:Nat} (ha:1≤a) (hb:1≤b) (h1:Nat.gcd n1.natAbs a=1) (h2:Nat.gcd n2.natAbs b=1) {s:Bool} (hs:n1*n2=sgn s (n1.natAbs*n2.natAbs)) :
    Low (n1*n2) ((a:Int)*(b:Int)) (sgn s (n1.natAbs / Nat.gcd n1.natAbs b*(n2.natAbs / Nat.gcd n2.natAbs a))) ((a / Nat.gcd n2.natAbs a*(b / Nat.gcd n1.natAbs b):Nat):Int):=by
  have g1:1≤Nat.gcd n1.natAbs b:=Nat.gcd_pos_of_pos_right _ hb
  have g2:1≤Nat.gcd n2.natAbs a:=Nat.gcd_pos_of_pos_right _ ha
  have e1:n1.natAbs / Nat.gcd n1.natAbs b*Nat.gcd n1.natAbs b=n1.natAbs:=Nat.div_mul_cancel (Nat.gcd_dvd_left _ _)
  have e2:n2.natAbs / Nat.gcd n2.natAbs a*Nat.gcd n2.natAbs a=n2.natAbs:=Nat.div_mul_cancel (Nat.gcd_dvd_left _ _)
  have e3:a / Nat.gcd n2.natAbs a*Nat.gcd n2.natAbs a=a:=Nat.div_mul_cancel (Nat.gcd_dvd_right _ _)
  have e4:b / Nat.gcd n1.natAbs b*Nat.gcd n1.natAbs b=b:=Nat.div_mul_cancel (Nat.gcd_dvd_right _ _)
  have c1:Nat.gcd (n1.natAbs / Nat.gcd n1.natAbs b) (b / Nat.gcd n1.natAbs b)=1:=Nat.coprime_div_gcd_div_gcd g1
  have c2:Nat.gcd (n2.natAbs / Nat.gcd n2.natAbs a) (a / Nat.gcd n2.natAbs a)=1:=Nat.coprime_div_gcd_div_gcd g2
  have p1:1≤a / Nat.gcd n2.natAbs a:=Nat.div_pos (Nat.gcd_le_right _ ha) g2
  have p2:1≤b / Nat.gcd n1.natAbs b:=Nat.div_pos (Nat.gcd_le_right _ hb) g1
  generalize Nat.gcd n1.natAbs b=g at *
  generalize Nat.gcd n2.natAbs a=h at *
  generalize n1.natAbs / g=u at *
  generalize n2.natAbs / h=v at *
  generalize ha':a / h=a' at *
  generalize hb':b / g=b' at *
  have du:u ∣ n1.natAbs:=⟨g,e1.symm⟩
  have dv:v ∣ n2.natAbs:=⟨h,e2.symm⟩
  have da:a' ∣ a:=⟨h,e3.symm⟩
  have db:b' ∣ b:=⟨g,e4.symm⟩
  have c3:Nat.Coprime u a':=Nat.Coprime.coprime_dvd_left du (Nat.Coprime.coprime_dvd_right da h1)
  have c4:Nat.Coprime v b':=Nat.Coprime.coprime_dvd_left dv (Nat.Coprime.coprime_dvd_right db h2)
  have hc:Nat.gcd (u*v) (a'*b')=1:=Nat.Coprime.mul_left (Nat.Coprime.mul_right c3 c1) (Nat.Coprime.mul_right c2 c4)
  have hp:1≤a'*b':=Nat.mul_pos p1 p2
  refine ⟨by omega,by rw [q399,Int.natAbs_natCast];exact hc,?_⟩
  rw [hs,← e1,← e2,← e3,← e4]
  have hN:(u*g*(v*h))*(a'*b')=(u*v)*(a'*h*(b'*g)):=by
    rw [Nat.mul_mul_mul_comm u g v h,Nat.mul_mul_mul_comm a' h b' g,Nat.mul_assoc (u*v),Nat.mul_comm (g*h),Nat.mul_comm h g]
  have hZ:((u*g*(v*h):Nat):Int)*((a'*b':Nat):Int)=((u*v:Nat):Int)*(((a'*h:Nat):Int)*((b'*g:Nat):Int)):=by
    have:=congrArg (fun n:Nat=>(n:Int)) hN
    simpa using this
  unfold sgn
  cases s
  · exact hZ
  · show -((u * g * (v * h) : Nat) : Int) * ((a' * b' : Nat) : Int) = -((u * v : Nat) : Int) * (((a' * h : Nat) : Int) * ((b' * g : Nat) : Int))
    rw [Int.neg_mul,Int.neg_mul,hZ]
end Go.Pel
namespace Go.Proofs.YtpfhgnccpiildaaGreat
open Go Go.Tx Go.Pel
end Go.Proofs.YtpfhgnccpiildaaGreat

namespace Go.Proofs.YtpfhgnccpiildaaGreat
open Go Go.Tx Go.Pel
def lasT (l:List T3) (n dd:Int):T3:=toP ((ordI n dd (ptsL l))[l.length - 1]?.getD Pt.zero)
def Last (l:List T3) (n dd:Int) (p:T3):Prop:=p∈l∧∀ q∈l,leads (ofP p) (ofP q) n dd=false
theorem q3bf (l:List T3) (n dd:Int):(ordI n dd (ptsL l)).length=l.length:=by rw [(qur n dd (ptsL l)).length_eq,qil]
theorem q3bi {l:List T3} (hl:l ≠ []) (n dd:Int):(ordI n dd (ptsL l))[0]?=some (ofP (ldT l n dd)):=by
  have hlen:=q3bf l n dd
  have h0:0<l.length:=List.length_pos_iff.2 hl
  unfold ldT
  cases h:ordI n dd (ptsL l) with
  | nil=>rw [h] at hlen;simp at hlen;omega
  | cons P r=>rfl
theorem Last.uniq {l:List T3} (h:FldOk l) {n dd:Int} {p q:T3} (hp:Last l n dd p) (hq:Last l n dd q):p=q:=by
  refine Classical.byContradiction fun hne=>?_
  have hi:p.1≠q.1:=fun e=>hne (q362 h hp.1 hq.1 e)
  have h1:=hp.2 q hq.1
  have h2:=hq.2 p hp.1
  rw [q35p (p:=ofP p) (q:=ofP q) hi,h1] at h2
  cases h2
def chkS (l:List T3) (n dd n' dd':Int):Int:=if chk2 l n dd n' dd'≠0 then chk2 l n dd n' dd' else if l.length=0 then 42 else 0
def apV (p q:T3) (n dd:Int):Int×Int×Int:=if (atQ p n dd).2.2≠0 then (0,0,(atQ p n dd).2.2) else if (atQ q n dd).2.2≠0 then (0,0,(atQ q n dd).2.2) else subV (atQ p n dd).1 (atQ p n dd).2.1 (atQ q n dd).1 (atQ q n dd).2.1
def spV (l:List T3) (n dd:Int):Int×Int×Int:=if chkS l n dd n dd≠0 then (0,0,chkS l n dd n dd) else apV (ldT l n dd) (lasT l n dd) n dd
end Go.Proofs.YtpfhgnccpiildaaGreat

namespace Go.Proofs.YtpfhgnccpiildaaGreat
open Go Go.Tx Go.Pel
theorem q3bt (n dd:Int):leQ n dd n dd:=Int.le_refl _
structure okQ (n dd:Int):Prop where
  b1:i64B n=true
  b2:i64B dd=true
  ok:qcv n dd=0
end Go.Proofs.YtpfhgnccpiildaaGreat

namespace Go.Proofs.YtpfhgnccpiildaaGreat
open Go Go.Tx Go.Pel
end Go.Proofs.YtpfhgnccpiildaaGreat

namespace Go.Proofs.YtpfhgnccpiildaaGreat
open Go Go.Tx Go.Pel
theorem q3cd {n d:Int} (hd:d≠0) (hn:n.natAbs≤4194304) (hd2:d.natAbs≤4194304):(mk (-n) (-d)).1=(mk n d).1∧(mk (-n) (-d)).2.1=(mk n d).2.1:=by
  obtain ⟨_,k1,_,_⟩:=q333 hd hn hd2
  obtain ⟨_,k2,_,_⟩:=q333 (n:=-n) (d:=-d) (by omega) (by omega) (by omega)
  have e1:=q358 hd hn hd2
  have e2:=q358 (n:=-n) (d:=-d) (by omega) (by omega) (by omega)
  refine q_eq k2 k1 ?_
  generalize (mk (-n) (-d)).1=a at *
  generalize (mk (-n) (-d)).2.1=b at *
  generalize (mk n d).1=a' at *
  generalize (mk n d).2.1=b' at *
  have e3:a*d=n*b:=by rw [Int.mul_neg,Int.neg_mul] at e2;omega
  have e4:a*b'*d=a'*b*d:=by
    rw [Int.mul_right_comm,e3,Int.mul_right_comm a',e1,Int.mul_right_comm]
  exact Int.eq_of_mul_eq_mul_right hd e4
theorem q3ce {l:List T3} (h:FldOk l) {p q:T3} (hp:p∈l) (hq:q∈l) (hi:p.1≠q.1) {m:M4} (hm:mtP (p,q)=some m):∃ m'∈allM l,m'.1=m.1∧m'.2.1=m.2.1:=by
  obtain ⟨i,hi'⟩:=List.mem_iff_getElem?.1 hp
  obtain ⟨j,hj'⟩:=List.mem_iff_getElem?.1 hq
  have bp:=q33n (h.ok p hp)
  have bq:=q33n (h.ok q hq)
  rcases Nat.lt_trichotomy i j with k | k | k
  · exact ⟨m,q35r k hi' hj' hm,rfl,rfl⟩
  · subst k;rw [hi'] at hj';injection hj' with e;exact absurd (by rw [e]) hi
  · have hb : p.2.2.1 ≠ q.2.2.1 := (q35d (x := (p, q)) (h.ok p hp) (h.ok q hq) hm).1
    obtain ⟨m',hm'⟩:=q365 (p:=q) (q:=p) (Ne.symm hb)
    refine ⟨m',q35r k hj' hi' hm',?_⟩
    have e1:(if p.2.2.1=q.2.2.1 then none else some ((mk (p.2.1 - q.2.1) (q.2.2.1 - p.2.2.1)).1,(mk (p.2.1 - q.2.1) (q.2.2.1 - p.2.2.1)).2.1,p.1,q.1,()))=some m:=hm
    have e2:(if q.2.2.1=p.2.2.1 then none else some ((mk (q.2.1 - p.2.1) (p.2.2.1 - q.2.2.1)).1,(mk (q.2.1 - p.2.1) (p.2.2.1 - q.2.2.1)).2.1,q.1,p.1,()))=some m':=hm'
    rw [if_neg hb] at e1
    rw [if_neg (Ne.symm hb)] at e2
    injection e1 with e1
    injection e2 with e2
    subst e1
    subst e2
    have:=q3cd (n:=p.2.1 - q.2.1) (d:=q.2.2.1 - p.2.2.1) (by omega) (by omega) (by omega)
    rw [show -(p.2.1 - q.2.1)=q.2.1 - p.2.1 by omega,show -(q.2.2.1 - p.2.2.1)=p.2.2.1 - q.2.2.1 by omega] at this
    exact this
theorem q3cf {n dd:Int} {x y:M4} (h1:x.1=y.1) (h2:x.2.1=y.2.1):gtM n dd x=gtM n dd y:=by unfold gtM;rw [h1,h2]
theorem Last.behind {l:List T3} (h:FldOk l) {n dd:Int} {p q:T3} (hp:Last l n dd p) (hq:q∈l) (hne:q≠p):leads (ofP q) (ofP p) n dd=true:=by
  have hi:p.1≠q.1:=fun e=>hne (q362 h hq hp.1 e.symm)
  rw [q35p (p:=ofP p) (q:=ofP q) hi,hp.2 q hq];rfl
def NoM (l:List T3) (n dd n' dd':Int):Prop:=∀ m∈allM l,gtM n dd m=true→gtM n' dd' m=true
theorem q3cm {x:M4}:gtM x.1 x.2.1 x=false:=by
  cases hg:gtM x.1 x.2.1 x with
  | false=>rfl
  | true=>have:=(q33q x.1 x.2.1 x).1 hg;omega
theorem q3cn {x y:M4} (h:ltM y x=false):leQ x.1 x.2.1 y.1 y.2.1:=by
  have:=q32w y x h
  unfold leQ;omega
theorem q3cp {n dd:Int} {m:M4} (h:gtM n dd m=false):leQ m.1 m.2.1 n dd:=by
  unfold leQ
  refine Classical.byContradiction fun c=>?_
  rw [(q33q n dd m).2 (by omega)] at h
  cases h
end Go.Proofs.YtpfhgnccpiildaaGreat

namespace Go.Pel
open Go Go.Tx
theorem q3cr {X D:Int} (hX:X.natAbs≤9223372036854775807) (h1:1≤D) (h2:D≤9223372036854775807):(red X D).2.2=0:=by
  unfold red
  have e:=q387 X h1
  have g1:1≤Nat.gcd X.natAbs D.natAbs:=Nat.gcd_pos_of_pos_right _ (by omega)
  have a1:(X / (Nat.gcd X.natAbs D.natAbs:Nat)).natAbs≤X.natAbs:=by
    obtain ⟨k1,_⟩:=e.gcd h1
    have:=congrArg Int.natAbs k1
    rw [Int.natAbs_mul,Int.natAbs_natCast] at this
    generalize Nat.gcd X.natAbs D.natAbs=g at *
    generalize (X / (g:Int)).natAbs=u at *
    rw [this]
    exact Nat.le_mul_of_pos_right u g1
  have a2:(D / (Nat.gcd X.natAbs D.natAbs:Nat)).natAbs≤D.natAbs:=by
    obtain ⟨_,k1⟩:=e.gcd h1
    have:=congrArg Int.natAbs k1
    rw [Int.natAbs_mul,Int.natAbs_natCast] at this
    generalize Nat.gcd X.natAbs D.natAbs=g at *
    generalize (D / (g:Int)).natAbs=u at *
    rw [this]
    exact Nat.le_mul_of_pos_right u g1
  rw [q388 (by omega) (by omega)]
end Go.Pel
namespace Go.Proofs.YtpfhgnccpiildaaGreat
open Go Go.Tx Go.Pel
theorem q3cu {X Y D:Int} (hD:1≤D) (h1:(red X D).2.2=0) (h2:(red Y D).2.2=0):subV (red X D).1 (red X D).2.1 (red Y D).1 (red Y D).2.1=red (X - Y) D:=by
  obtain ⟨c1,e1,_,_⟩:=q38b hD h1
  obtain ⟨c2,e2,_,_⟩:=q38b hD h2
  have p1:=(qd2 c1).1
  have p2:=(qd2 c2).1
  unfold subV
  rw [if_pos ⟨c1,c2⟩]
  generalize (red X D).1=a at *
  generalize (red X D).2.1=b at *
  generalize (red Y D).1=c at *
  generalize (red Y D).2.1=d at *
  have q2:0<b*d:=Int.mul_pos (by omega) (by omega)
  refine q3b7 (by omega) hD ?_
  rw [Int.sub_mul,Int.sub_mul]
  have k1:a*d*D=X*(b*d):=by rw [Int.mul_right_comm,← e1,Int.mul_assoc]
  have k2:c*b*D=Y*(b*d):=by rw [Int.mul_right_comm,← e2,Int.mul_assoc,Int.mul_comm d b]
  rw [k1,k2]
def fpl (p:T3) (n dd:Int):Int:=p.2.1*dd+p.2.2.1*n
theorem q3cv {p:T3} (hp:okP p) {n dd:Int} (h1:1≤dd) (h2:dd≤4194304) (hn:n.natAbs≤2199023255552):(fpl p n dd).natAbs≤2305847407260205056+4398046511104:=by
  have:=q33n hp
  have m1:(p.2.1*dd).natAbs≤1048576*4194304:=by rw [Int.natAbs_mul];exact Nat.mul_le_mul (by omega) (by omega)
  have m2:(p.2.2.1*n).natAbs≤1048576*2199023255552:=by rw [Int.natAbs_mul];exact Nat.mul_le_mul (by omega) (by omega)
  unfold fpl;omega
theorem q3cw {p:T3} (hp:okP p) {n dd:Int} (hr:qcv n dd=0):atQ p n dd=red (fpl p n dd) dd:=by
  unfold atQ;rw [if_pos ⟨show qd9 p.1 p.2.1 p.2.2.1=0 from hp,hr⟩];rfl
theorem Lead.far {l:List T3} {n dd:Int} {p q:T3} (hp:Lead l n dd p) (hq:q∈l):fpl q n dd≤fpl p n dd:=by
  have:=hp.2 q hq
  refine Classical.byContradiction fun c=>?_
  rw [q35b.2 (.inl ?_)] at this
  · cases this
  · show 0 < (q.2.1 - p.2.1) * dd + (q.2.2.1 - p.2.2.1) * n
    unfold fpl at c
    rw [Int.sub_mul,Int.sub_mul];omega
end Go.Proofs.YtpfhgnccpiildaaGreat

namespace Go.Proofs.YtpfhgnccpiildaaGreat
open Go Go.Tx Go.Pel
structure GoodY (l:List T3) (t d:Int×Int) (y:Dii):Prop where
  q:okQ y.1 y.2.1
  e:(spV l y.1 y.2.1).2.2=0
  c:qcv (spV l y.1 y.2.1).1 (spV l y.1 y.2.1).2.1=0
  b1:i64B (spV l y.1 y.2.1).1=true
  b2:i64B (spV l y.1 y.2.1).2.1=true
  le:¬ cmpQ d.1 d.2 (spV l y.1 y.2.1).1 (spV l y.1 y.2.1).2.1 > 0
  eq:y.1=t.1→y.2.1=t.2→(spV l y.1 y.2.1).1=d.1∧(spV l y.1 y.2.1).2.1=d.2
  lt:cmpQ y.1 y.2.1 t.1 t.2<0→¬ ((spV l y.1 y.2.1).1=d.1∧(spV l y.1 y.2.1).2.1=d.2)
structure okB (n dd:Int):Prop where
  q:okQ n dd
  n1:n.natAbs≤2199023255552
  d1:dd≤4194304
end Go.Proofs.YtpfhgnccpiildaaGreat

namespace Go.Pel
open Go Go.Tx
theorem q3dg {X D:Int} (h1:1≤D) (h:(red X D).2.2=0):(0≤X→0≤(red X D).1)∧((red X D).1=0↔X=0):=by
  obtain ⟨c,e,_,_⟩:=q38b h1 h
  have p:=(qd2 c).1
  generalize (red X D).1=a at *
  generalize (red X D).2.1=b at *
  constructor
  · intro hX
    refine Classical.byContradiction fun k=>?_
    have k1:=Int.mul_nonneg hX (show 0≤b by omega)
    have k2:=Int.mul_neg_of_neg_of_pos (show a<0 by omega) (show 0<D by omega)
    omega
  · constructor
    · intro ha
      rw [ha,Int.zero_mul] at e
      rcases Int.mul_eq_zero.1 e with k | k
      · exact k
      · omega
    · intro hX
      rw [hX,Int.zero_mul] at e
      rcases Int.mul_eq_zero.1 e.symm with k | k
      · exact k
      · omega
theorem q3di {n dd n' dd' m md:Int} (hd:1≤dd) (hd':1≤dd') (h0:1≤md) (hm:m*(dd*dd'*2)=(n*dd'+n'*dd)*md) (hle:n*dd'≤n'*dd):n*md≤m*dd∧m*dd'≤n'*md:=by
  have k:=Int.mul_le_mul_of_nonneg_right hle (show 0≤md by omega)
  rw [Int.add_mul] at hm
  have f5:m*(dd*dd'*2)=m*dd*dd'*2:=by rw [← Int.mul_assoc,← Int.mul_assoc]
  have f6:m*(dd*dd'*2)=m*dd'*dd*2:=by rw [f5,Int.mul_right_comm m dd dd']
  constructor
  · refine Int.le_of_mul_le_mul_right (a := dd') ?_ (by omega)
    rw [Int.mul_right_comm n md dd'];omega
  · refine Int.le_of_mul_le_mul_right (a := dd) ?_ (by omega)
    rw [Int.mul_right_comm n' md dd];omega
end Go.Pel
namespace Go.Proofs.YtpfhgnccpiildaaGreat
open Go Go.Tx Go.Pel
theorem q3dk (X D:Int):i64B (red X D).1=true∧i64B (red X D).2.1=true:=by
  unfold red
  rcases q38a (X / (Nat.gcd X.natAbs D.natAbs:Nat)) (D / (Nat.gcd X.natAbs D.natAbs:Nat)) with ⟨e,k1,k2⟩ | e
  · rw [e];exact ⟨q33j k1,q33j k2⟩
  · rw [e];exact ⟨rfl,rfl⟩
end Go.Proofs.YtpfhgnccpiildaaGreat

namespace Go.Proofs.YtpfhgnccpiildaaGreat
open Go Go.Tx Go.Pel
theorem q3dm (d:Nat) (hd:200≤d) {n1 d1 n2 d2:Int} (hn1:i64B n1=true) (hd1:i64B d1=true) (hn2:i64B n2=true) (hd2:i64B d2=true) (c1:qcv n1 d1=0) (c2:qcv n2 d2=0):q282 d ((n1,d1,()),(n2,d2,()),())=some (red (n1*n2) (d1*d2)):=by
  have e0:=q32o d n1 d1 n2 d2 hn1 hd1 hn2 hd2
  rw [c1,c2,show tmax (0:Int) 0=0 from rfl] at e0
  have s1:=q32k d n1 hn1
  have s2:=q32k d n2 hn2
  obtain ⟨a,rfl,a1,a2,a3,a4⟩:=q39z c1 hn1 hd1
  obtain ⟨b,rfl,b1,b2,b3,b4⟩:=q39z c2 hn2 hd2
  have e1:=q39g d hd (a:=b) (b:=n1.natAbs) (by omega)
  have e2:=q39g d hd (a:=a) (b:=n2.natAbs) (by omega)
  have hs:n1*n2=sgn (decide (n1*n2<0)) (n1.natAbs*n2.natAbs):=by
    have:=sgnD (n1*n2)
    rw [Int.natAbs_mul] at this
    exact this.symm
  have hlow:=@q3b8 n1 n2 a b a1 b1 a4 b4 (decide (n1*n2<0)) hs
  have g1:1≤Nat.gcd n1.natAbs b:=Nat.gcd_pos_of_pos_right _ b1
  have g2:1≤Nat.gcd n2.natAbs a:=Nat.gcd_pos_of_pos_right _ a1
  have g3:Nat.gcd n1.natAbs b≤b:=Nat.gcd_le_right _ b1
  have g4:Nat.gcd n2.natAbs a≤a:=Nat.gcd_le_right _ a1
  have dv1:((Nat.gcd n1.natAbs b:Nat):Int) ∣ n1:=Int.ofNat_dvd_left.2 (Nat.gcd_dvd_left _ _)
  have dv2:((Nat.gcd n2.natAbs a:Nat):Int) ∣ n2:=Int.ofNat_dvd_left.2 (Nat.gcd_dvd_left _ _)
  have q3:=q3a5 (g:=Nat.gcd n2.natAbs a) a2
  have q4:=q3a5 (g:=Nat.gcd n1.natAbs b) b2
  have t3:=q3a0 a (Nat.gcd n2.natAbs a)
  have t4:=q3a0 b (Nat.gcd n1.natAbs b)
  have u1:n1.natAbs / Nat.gcd n1.natAbs b≤n1.natAbs:=Nat.div_le_self _ _
  have u2:n2.natAbs / Nat.gcd n2.natAbs a≤n2.natAbs:=Nat.div_le_self _ _
  have w1:n1.natAbs / Nat.gcd n1.natAbs b*Nat.gcd n1.natAbs b=n1.natAbs:=Nat.div_mul_cancel (Nat.gcd_dvd_left _ _)
  have w2:n2.natAbs / Nat.gcd n2.natAbs a*Nat.gcd n2.natAbs a=n2.natAbs:=Nat.div_mul_cancel (Nat.gcd_dvd_left _ _)
  rw [Nat.gcd_comm b] at e1
  rw [Nat.gcd_comm a] at e2
  have hD:1≤(a:Int)*(b:Int):=by
    have:=Int.mul_pos (show (0:Int)<(a:Int) by omega) (show (0:Int)<(b:Int) by omega);omega
  generalize Nat.gcd n1.natAbs b=g at *
  generalize Nat.gcd n2.natAbs a=h at *
  obtain ⟨m1,rfl⟩:=dv1
  obtain ⟨m2,rfl⟩:=dv2
  have x1:((g:Int)*m1).tdiv (g:Int)=m1:=Int.mul_tdiv_cancel_left _ (by omega)
  have x2:((h:Int)*m2).tdiv (h:Int)=m2:=Int.mul_tdiv_cancel_left _ (by omega)
  have y1:((g:Int)*m1).natAbs / g=m1.natAbs:=by
    rw [Int.natAbs_mul,Int.natAbs_natCast,Nat.mul_div_cancel_left _ (by omega)]
  have y2:((h:Int)*m2).natAbs / h=m2.natAbs:=by
    rw [Int.natAbs_mul,Int.natAbs_natCast,Nat.mul_div_cancel_left _ (by omega)]
  rw [y1,y2] at hlow
  rw [y1] at u1
  rw [y2] at u2
  have hsg:sgn (decide ((g:Int)*m1*((h:Int)*m2)<0)) (m1.natAbs*m2.natAbs)=m1*m2:=by
    have k:((g:Int)*m1*((h:Int)*m2)<0)↔(m1*m2<0):=by
      have e:(g:Int)*m1*((h:Int)*m2)=m1*m2*((g:Int)*(h:Int)):=by ac_rfl
      have p:0<(g:Int)*(h:Int):=Int.mul_pos (by omega) (by omega)
      rw [e]
      constructor
      · intro q
        refine Classical.byContradiction fun c=>?_
        have:=Int.mul_nonneg (show 0≤m1*m2 by omega) (show 0≤(g:Int)*(h:Int) by omega)
        omega
      · intro q;exact Int.mul_neg_of_neg_of_pos q p
    have:=sgnD (m1*m2)
    rw [Int.natAbs_mul] at this
    rw [show decide ((g:Int)*m1*((h:Int)*m2)<0)=decide (m1*m2<0) from decide_eq_decide.2 k]
    exact this
  rw [hsg] at hlow
  rw [q386 hD hlow]
  generalize a / h=a' at *
  generalize b / g=b' at *
  have wa:=q3a1 (show a<18446744073709551616 by omega)
  have wb:=q3a1 (show b<18446744073709551616 by omega)
  have i1:i64B m1=true:=q33j (by omega)
  have i2:i64B m2=true:=q33j (by omega)
  have e3:=q32m d m1 m2 i1 i2
  have e4:=q3a3 d (a:=a') (b:=b') (by omega) (by omega)
  have hM:=q32l i1 i2
  have hDb:a'*b'<340282366920938463463374607431768211456:=by
    have:=Nat.mul_le_mul q3 q4
    omega
  have e5:=q39u d (s:=(!((decide (m1<0)) == (decide (m2<0))))) (N:=(m1*m2).natAbs) (D:=a'*b') hM hDb
  rw [q39v] at e5
  have wm1:IntKind.wrap .i64 m1=m1:=IntWalk.i64_in _ (by omega)
  have wm2:IntKind.wrap .i64 m2=m2:=IntWalk.i64_in _ (by omega)
  have e3':q11s d ((m1,()),(m2,()),())=some (!((decide (m1<0)) == (decide (m2<0))),hiN (m1*m2).natAbs,loN (m1*m2).natAbs):=e3
  simp only [q282,q278,q27e,q27i,q27m,q27q,q27u,q27y,q280,Dt.eval,e0,show ((0:Int) != 0)=false from rfl,cond_false,wa,wb,s1,s2,e1,e2,q3a2 (show g≤9223372036854775807 by omega),q3a2 (show h≤9223372036854775807 by omega),neN g1,neN g2,t3,t4,q3a2 q3,q3a2 q4,q3a1 (show a'<18446744073709551616 by omega),q3a1 (show b'<18446744073709551616 by omega),e4,x1,x2,wm1,wm2,e3',e5]
theorem q3dn (d:Nat) (hd:200≤d) {n1 d1 n2 d2:Int} (hn1:i64B n1=true) (hd1:i64B d1=true) (hn2:i64B n2=true) (hd2:i64B d2=true):q282 d ((n1,d1,()),(n2,d2,()),())=some (if qcv n1 d1=0∧qcv n2 d2=0 then red (n1*n2) (d1*d2) else (0,0,8)):=by
  by_cases hc:qcv n1 d1=0∧qcv n2 d2=0
  · rw [if_pos hc];exact q3dm d hd hn1 hd1 hn2 hd2 hc.1 hc.2
  · rw [if_neg hc]
    have e0:=q32o d n1 d1 n2 d2 hn1 hd1 hn2 hd2
    have:tmax (qcv n1 d1) (qcv n2 d2)=8:=by
      rcases qd1 n1 d1 with q1 | q1<;>rcases qd1 n2 d2 with q2 | q2
      · exact absurd ⟨q1,q2⟩ hc
      all_goals rw [q1,q2];rfl
    rw [this] at e0
    simp only [q282,q278,q27e,q27i,q27m,q27q,q27u,q27y,q280,Dt.eval,e0,show ((8:Int) != 0)=true from rfl,cond_true]
theorem q3do {l:List T3} (h:FldOk l) {p q:T3} (hp:p∈l) (hq:q∈l) {n dd n' dd':Int} (hd:1≤dd) (hd':1≤dd') (hle:leQ n dd n' dd') (hno:NoM l n dd n' dd'):leads (ofP p) (ofP q) n dd=leads (ofP p) (ofP q) n' dd':=by
  by_cases hb:p.2.2.1=q.2.2.1
  · exact q35f hb hd hd'
  · have hne : p.1 ≠ q.1 := fun e => hb (by rw [q362 h hp hq e])
    obtain ⟨m,hm⟩:=q365 (p:=p) (q:=q) hb
    obtain ⟨m',hm',e1,e2⟩:=q3ce h hp hq hne hm
    have k1:=q35e (x:=(p,q)) (h.ok p hp) (h.ok q hq) hm (n:=n) (dd:=dd)
    have k2:=q35e (x:=(p,q)) (h.ok p hp) (h.ok q hq) hm (n:=n') (dd:=dd')
    have g:gtM n dd m=gtM n' dd' m:=by
      rw [← q3cf e1 e2,← q3cf e1 e2]
      cases hg:gtM n dd m' with
      | true=>exact (hno m' hm' hg).symm
      | false =>
        cases hg':gtM n' dd' m' with
        | false=>rfl
        | true=>rw [q34o hd hd' hle (q340 h m' hm').ok hg'] at hg;cases hg
    rw [g] at k1
    exact k1.trans k2.symm
theorem q3dp {l:List T3} (h:FldOk l) {n dd n' dd':Int} (hd:1≤dd) (hd':1≤dd') (hle:leQ n dd n' dd') (hno:NoM l n dd n' dd'):ordI n dd (ptsL l)=ordI n' dd' (ptsL l):=by
  unfold ordI
  refine q33g fun a ha b hb=>?_
  obtain ⟨p,hp,rfl⟩:=q35w ha
  obtain ⟨q,hq,rfl⟩:=q35w hb
  exact q3do h hp hq hd hd' hle hno
theorem q3dq {α:Type} {S:α×α→Bool}:∀ {L L':List α},L.Perm L'→(∀ a∈L,∀ b∈L,S (a,b)=S (b,a))→(qwo L).countP S=(qwo L').countP S:=by
  intro L L' h
  induction h with
  | nil=>intro _;rfl
  | @cons x l l' hp ih =>
    intro hs
    show ((l.map fun q=>(x,q))++qwo l).countP S=((l'.map fun q=>(x,q))++qwo l').countP S
    rw [List.countP_append,List.countP_append,ih (fun a ha b hb=>hs a (List.mem_cons_of_mem _ ha) b (List.mem_cons_of_mem _ hb)),(hp.map _).countP_eq]
  | @swap x y l =>
    intro hs
    show (((x :: l).map fun q=>(y,q))++((l.map fun q=>(x,q))++qwo l)).countP S=(((y :: l).map fun q=>(x,q))++((l.map fun q=>(y,q))++qwo l)).countP S
    rw [List.countP_append,List.countP_append,List.countP_append,List.countP_append,List.map_cons,List.map_cons,List.countP_cons,List.countP_cons,hs y (List.mem_cons_self ..) x (List.mem_cons_of_mem _ (List.mem_cons_self ..))]
    omega
  | @trans a b c h1 h2 ih1 ih2 =>
    intro hs
    rw [ih1 hs,ih2 fun u hu v hv=>hs u (h1.mem_iff.2 hu) v (h1.mem_iff.2 hv)]
def ordT (l:List T3) (n dd:Int):List T3:=(ordI n dd (ptsL l)).map toP
def idU (p:T3):Di:=(p.1,())
theorem q3dr (l:List T3) (n dd:Int):(ordT l n dd).Perm l:=by
  have h:(ordT l n dd).Perm (toPs (ptsL l)):=(qur n dd (ptsL l)).map toP
  rwa [q351] at h
theorem q3ds (l:List T3) (n dd:Int):unI ((ordI n dd (ptsL l)).map Pt.id)=(ordT l n dd).map idU:=by
  unfold ordT unI
  rw [List.map_map,List.map_map]
  rfl
theorem q3dt {l:List T3} (h:FldOk l) (n dd:Int):(ordT l n dd).Pairwise fun a b=>a.1≠b.1∧leads (ofP a) (ofP b) n dd=true:=by
  unfold ordT
  rw [List.pairwise_map]
  have hp:=qur n dd (ptsL l)
  have hn:(ordI n dd (ptsL l)).Pairwise fun a b=>a.id≠b.id:=by
    refine (hp.pairwise_iff (R:=fun a b:Pt=>a.id≠b.id) (fun {a b} h=>Ne.symm h)).2 ?_
    unfold ptsL
    rw [List.pairwise_map]
    exact h.inc.imp fun {a b} hab=>by show a.1≠b.1;omega
  refine ((qut n dd (ptsL l)).and hn).imp fun {a b} ⟨h1,h2⟩=>⟨h2,?_⟩
  show leads a b n dd=true
  rw [q35p (p:=b) (q:=a) (Ne.symm h2),h1];rfl
theorem q3du (l:List T3) (n dd:Int):(ordT l n dd).length=l.length:=(q3dr l n dd).length_eq
theorem q3dv {l:List T3} (h:FldOk l) {n dd:Int} {i j:Nat} {p q:T3} (hi:(ordT l n dd)[i]?=some p) (hj:(ordT l n dd)[j]?=some q):decide (i<j)=leads (ofP p) (ofP q) n dd:=by
  have hpw:=List.pairwise_iff_getElem.1 (q3dt h n dd)
  obtain ⟨i1,i2⟩:=List.getElem?_eq_some_iff.1 hi
  obtain ⟨j1,j2⟩:=List.getElem?_eq_some_iff.1 hj
  rcases Nat.lt_trichotomy i j with k | k | k
  · have := (hpw i j i1 j1 k).2
    rw [i2,j2] at this
    rw [decide_eq_true k,this]
  · subst k
    rw [i2] at j2
    rw [decide_eq_false (Nat.lt_irrefl _),← j2,q35o]
  · have := hpw j i j1 i1 k
    rw [i2,j2] at this
    rw [decide_eq_false (by omega),q35p (p:=ofP q) (q:=ofP p) this.1,this.2];rfl
theorem q3dw {l:List T3} (h:FldOk l) {n dd n' dd':Int} (hd:1≤dd) (hd':1≤dd') (hle:leQ n dd n' dd'):(qwo (ordT l n dd)).countP (fun x=>leads (ofP x.2) (ofP x.1) n' dd')=((allM l).filter (inM n dd n' dd')).length:=by
  have e1:=q35n h hd hd' hle
  rw [← q34r hd hd' hle (fun x hx=>(q340 h x hx).ok) (q33d h)] at e1
  rw [← e1,← q3dq (q3dr l n dd) ?_]
  · refine List.countP_congr fun x hx => ?_
    obtain ⟨_,_,g1,g2⟩:=q335 hx (q3dt h n dd)
    unfold swP
    rw [g2,q35p (p:=ofP x.1) (q:=ofP x.2) g1]
    cases leads (ofP x.1) (ofP x.2) n' dd'<;>simp
  · intro a ha b hb
    by_cases hab:a.1=b.1
    · have : a = b := q362 h ((q3dr l n dd).mem_iff.1 ha) ((q3dr l n dd).mem_iff.1 hb) hab
      rw [this]
    · unfold swP
      rw [q35p (p:=ofP a) (q:=ofP b) hab,q35p (p:=ofP a) (q:=ofP b) hab]
      cases leads (ofP a) (ofP b) n dd<;>cases leads (ofP a) (ofP b) n' dd'<;>rfl
end Go.Proofs.YtpfhgnccpiildaaGreat
