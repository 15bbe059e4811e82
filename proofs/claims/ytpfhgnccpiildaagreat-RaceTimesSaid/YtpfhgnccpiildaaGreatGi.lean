/- Walks of the references; the orders agree; examples. -/
import Derived.Test.YtpfhgnccpiildaaGreatRows
import Derived.ProofKit
import Derived.OpenShut
import Derived.ShutString
import Derived.ChangeOld
import Derived.Deep.Slices
import Derived.Test.YtpfhgnccpiildaaGreatGh
set_option linter.unusedSimpArgs false
set_option linter.unusedVariables false
namespace Go.Pel
open Go Go.Tx
theorem and1 (x:Nat) (hx:x<18446744073709551616):andI .u64 (x:Int) 1=((x % 2:Nat):Int):=by
  unfold andI
  rw [show (BitVec.ofInt IntKind.u64.bits (x:Int) &&& BitVec.ofInt IntKind.u64.bits 1).toNat=x % 2 by
    rw [BitVec.toNat_and,BitVec.toNat_ofInt,BitVec.toNat_ofInt]
    rw [show (((x:Int) % ((2 ^ IntKind.u64.bits:Nat):Int)).toNat)=x by show ((x:Int) % 18446744073709551616).toNat=x;omega,show (((1:Int) % ((2 ^ IntKind.u64.bits:Nat):Int)).toNat)=2 ^ 1 - 1 from rfl,Nat.and_two_pow_sub_one_eq_mod]]
  exact wu64 (by omega)
theorem q31h {P k:Nat} (hk:64≤k):P / 18446744073709551616 / 2 ^ (k - 64) % 2=P / 2 ^ k % 2:=by
  rw [Nat.div_div_eq_div_mul,show (18446744073709551616:Nat)=2 ^ 64 from rfl,← Nat.pow_add,show 64+(k - 64)=k by omega]
theorem q31i {P k:Nat} (hk:k<64):P % 18446744073709551616 / 2 ^ k % 2=P / 2 ^ k % 2:=by
  rw [show (18446744073709551616:Nat)=2 ^ k*2 ^ (64 - k) by rw [← Nat.pow_add,show k+(64 - k)=64 by omega],Nat.mod_mul_right_div_self,show 64 - k=(63 - k)+1 by omega,Nat.pow_succ,Nat.mul_comm,Nat.mod_mul_right_mod]
theorem q31j {P k y:Nat} (hy:0<y):P / 2 ^ k / y=2*(P / 2 ^ (k+1) / y)+(if y≤2*(P / 2 ^ (k+1) % y)+P / 2 ^ k % 2 then 1 else 0)∧P / 2 ^ k % y=(if y≤2*(P / 2 ^ (k+1) % y)+P / 2 ^ k % 2 then 2*(P / 2 ^ (k+1) % y)+P / 2 ^ k % 2 - y else 2*(P / 2 ^ (k+1) % y)+P / 2 ^ k % 2):=by
  have e0:P / 2 ^ (k+1)=P / 2 ^ k / 2:=by rw [Nat.div_div_eq_div_mul,Nat.pow_succ]
  rw [e0]
  generalize P / 2 ^ k=X
  have hq:y*(X / 2 / y)+X / 2 % y=X / 2:=Nat.div_add_mod _ _
  have hr:=Nat.mod_lt (X / 2) hy
  generalize X / 2 / y=q at *
  generalize X / 2 % y=r at *
  have hX:X=2*r+X % 2+y*(2*q):=by
    have:y*(2*q)=2*(y*q):=by rw [Nat.mul_left_comm]
    omega
  have hc:X % 2<2:=Nat.mod_lt _ (by omega)
  generalize X % 2=c at *
  by_cases h:y≤2*r+c
  · rw [if_pos h, if_pos h]
    have e:X=(2*r+c - y)+y*(2*q+1):=by rw [Nat.mul_add,Nat.mul_one];omega
    constructor
    · rw [e,Nat.add_mul_div_left _ _ hy,Nat.div_eq_of_lt (by omega)];omega
    · rw [e,Nat.add_mul_mod_self_left,Nat.mod_eq_of_lt (by omega)]
  · rw [if_neg h, if_neg h]
    constructor
    · rw [hX,Nat.add_mul_div_left _ _ hy,Nat.div_eq_of_lt (by omega)];omega
    · rw [hX,Nat.add_mul_mod_self_left,Nat.mod_eq_of_lt (by omega)]
theorem q31k {a k:Nat} (hk:k<64) (h:2 ^ (k+1)*a+2 ^ k<18446744073709551616):orI .u64 ((2 ^ (k+1)*a:Nat):Int) (shlI .u64 1 (k:Int))=((2 ^ (k+1)*a+2 ^ k:Nat):Int):=by
  have hp:2 ^ k<2 ^ (k+1):=by rw [Nat.pow_succ];have:=Nat.two_pow_pos k;omega
  rw [q2zx _ _ (by omega),show ((1:Int)*((2 ^ k:Nat):Int)) % 18446744073709551616=((2 ^ k:Nat):Int) by rw [Int.one_mul];omega]
  exact or64 a (2 ^ k) (k+1) hp h
theorem q31l {q k:Nat} (hk:64≤k) (hk2:k<128):(q*2 ^ (k+1)) % 18446744073709551616=0∧(q*2 ^ (k+1)) / 18446744073709551616=2 ^ (k - 64+1)*q∧((2*q+1)*2 ^ k) % 18446744073709551616=0∧((2*q+1)*2 ^ k) / 18446744073709551616=2 ^ (k - 64+1)*q+2 ^ (k - 64):=by
  have e1:2 ^ k=2 ^ (k - 64)*18446744073709551616:=by rw [show (18446744073709551616:Nat)=2 ^ 64 from rfl,← Nat.pow_add,show k - 64+64=k by omega]
  have e2:2 ^ (k+1)=2 ^ (k - 64+1)*18446744073709551616:=by rw [Nat.pow_succ,e1,Nat.pow_succ];omega
  have e3:(2*q+1)*2 ^ k=(2 ^ (k - 64+1)*q+2 ^ (k - 64))*18446744073709551616:=by
    rw [e1,Nat.pow_succ,Nat.add_mul,Nat.add_mul,Nat.one_mul]
    congr 1
    rw [← Nat.mul_assoc]
    congr 1
    rw [Nat.mul_comm (2*q),Nat.mul_assoc]
  rw [e3,e2,← Nat.mul_assoc,Nat.mul_comm q]
  refine ⟨Nat.mul_mod_left _ _,Nat.mul_div_cancel _ (by omega),Nat.mul_mod_left _ _,Nat.mul_div_cancel _ (by omega)⟩
theorem q31m {q k:Nat} (hk:k<64):∃ a,(q*2 ^ (k+1)) % 18446744073709551616=2 ^ (k+1)*a∧2 ^ (k+1)*a+2 ^ k<18446744073709551616∧((2*q+1)*2 ^ k) % 18446744073709551616=2 ^ (k+1)*a+2 ^ k∧((2*q+1)*2 ^ k) / 18446744073709551616=(q*2 ^ (k+1)) / 18446744073709551616:=by
  have hM:(18446744073709551616:Nat)=2 ^ (k+1)*2 ^ (63 - k):=by rw [← Nat.pow_add,show k+1+(63 - k)=64 by omega]
  have hp1:0<2 ^ (k+1):=Nat.two_pow_pos _
  have hp2:0<2 ^ (63 - k):=Nat.two_pow_pos _
  have hlt:=Nat.mod_lt q hp2
  have h2k:2 ^ (k+1)=2*2 ^ k:=by rw [Nat.pow_succ];omega
  have hqd:2 ^ (63 - k)*(q / 2 ^ (63 - k))+q % 2 ^ (63 - k)=q:=Nat.div_add_mod _ _
  have hb:2 ^ (k+1)*(q % 2 ^ (63 - k))+2 ^ (k+1)≤18446744073709551616:=by
    rw [hM,← Nat.mul_succ];exact Nat.mul_le_mul_left _ hlt
  have e1:q*2 ^ (k+1)=18446744073709551616*(q / 2 ^ (63 - k))+2 ^ (k+1)*(q % 2 ^ (63 - k)):=by
    rw [hM,Nat.mul_assoc,← Nat.mul_add,hqd,Nat.mul_comm]
  have hpk:0<2 ^ k:=Nat.two_pow_pos k
  have hlt1:2 ^ (k+1)*(q % 2 ^ (63 - k))<18446744073709551616:=by omega
  have hlt2:2 ^ (k+1)*(q % 2 ^ (63 - k))+2 ^ k<18446744073709551616:=by omega
  refine ⟨q % 2 ^ (63 - k),?_,hlt2,?_,?_⟩
  · rw [e1,Nat.mul_add_mod,Nat.mod_eq_of_lt hlt1]
  · rw [show (2*q+1)*2 ^ k=q*2 ^ (k+1)+2 ^ k by rw [Nat.add_mul,h2k,Nat.one_mul,Nat.mul_comm 2 q,Nat.mul_assoc],e1,Nat.add_assoc,Nat.mul_add_mod,Nat.mod_eq_of_lt hlt2]
  · rw [show (2*q+1)*2 ^ k=q*2 ^ (k+1)+2 ^ k by rw [Nat.add_mul,h2k,Nat.one_mul,Nat.mul_comm 2 q,Nat.mul_assoc],e1,Nat.add_assoc,Nat.mul_add_div (by omega),Nat.mul_add_div (by omega),Nat.div_eq_of_lt hlt2,Nat.div_eq_of_lt hlt1]
end Go.Pel
namespace Go.Proofs.YtpfhgnccpiildaaGreat
open Go Go.Tx Go.Pel
abbrev dvS:Type:=Int×Int×Int×Bool×Int×Int×Bool×Int×Int×Bool×Int×Int
theorem q31n (d:Nat) {f:Nat} {y r j p1 p0 h2 l2 o1 o0 i64 c:Int} {n n2:Bool} (hj:decide (j≥0)=true) (hjn:decide (j<0)=false) (h64:decide (j≥64)=true) (hi:IntKind.wrap .i64 (j - 64)=i64) (hin:decide (i64<0)=false) (hc:andI .u64 (shrI .u64 p1 i64) 1=c) {r2 j2:Int} (hr:IntKind.wrap .u64 (IntKind.wrap .u64 (2*r)+c)=r2) (hj2:IntKind.wrap .i64 (j - 1)=j2) {self:dvS→Option q1wz} :
    q1yp d self (y,r,j,n,p1,p0,n2,h2,l2,false,o1,o0)=(bif decide (r2≥y) then self (y,IntKind.wrap .u64 (r2 - y),j2,n,p1,p0,n2,h2,l2,false,orI .u64 o1 (shlI .u64 1 i64),o0) else self (y,r2,j2,n,p1,p0,n2,h2,l2,false,o1,o0)):=by
  unfold q1yp q1yk
  simp only [q1xp,q1yf,q1xt,q1xx,q1xz,q1y1,q1y5,q1y7,q1yb,q1yd,q1yi,q1yn,Dt.eval,hj,hjn,h64,cond_true,cond_false,hi,hin,hc,hr]
  unfold q1yh
  simp only [q1xp,q1yf,q1xt,q1xx,q1xz,q1y1,q1y5,q1y7,q1yb,q1yd,q1yi,q1yn,Dt.eval,hj2]
theorem q31o (d:Nat) {y r j p1 p0 h2 l2 o1 o0 c:Int} {n n2:Bool} (hj:decide (j≥0)=true) (hjn:decide (j<0)=false) (h64:decide (j≥64)=false) (hc:andI .u64 (shrI .u64 p0 j) 1=c) {r2 j2:Int} (hr:IntKind.wrap .u64 (IntKind.wrap .u64 (2*r)+c)=r2) (hj2:IntKind.wrap .i64 (j - 1)=j2) {self:dvS→Option q1wz} :
    q1yp d self (y,r,j,n,p1,p0,n2,h2,l2,false,o1,o0)=(bif decide (r2≥y) then self (y,IntKind.wrap .u64 (r2 - y),j2,n,p1,p0,n2,h2,l2,false,o1,orI .u64 o0 (shlI .u64 1 j)) else self (y,r2,j2,n,p1,p0,n2,h2,l2,false,o1,o0)):=by
  unfold q1yp q1yk
  simp only [q1xp,q1yf,q1xt,q1xx,q1xz,q1y1,q1y5,q1y7,q1yb,q1yd,q1yi,q1yn,Dt.eval,hj,hjn,h64,cond_true,cond_false,hc,hr]
  unfold q1yh
  simp only [q1xp,q1yf,q1xt,q1xx,q1xz,q1y1,q1y5,q1y7,q1yb,q1yd,q1yi,q1yn,Dt.eval,hj2]
theorem q31p (d:Nat) {y r p1 p0 h2 l2 o1 o0:Int} {n n2:Bool} {self:dvS→Option q1wz}:q1yp d self (y,r,-1,n,p1,p0,n2,h2,l2,false,o1,o0)=some (false,o1,o0,r):=by
  unfold q1yp
  simp only [q1xp,q1yf,q1xt,q1xx,q1xz,q1y1,q1y5,q1y7,q1yb,q1yd,q1yi,q1yn,Dt.eval,show decide ((-1:Int)≥0)=false from rfl,cond_false]
theorem q31q (d:Nat) {P y:Nat} {n n2:Bool} {h2 l2:Int} (hP:P<340282366920938463463374607431768211456) (hy:0<y) (hy2:y≤9223372036854775808):∀ (k f:Nat),k≤128→k<f →
    iter (q1yp d) f ((y:Int),((P / 2 ^ k % y:Nat):Int),(k:Int) - 1,n,hiN P,loN P,n2,h2,l2,false,hiN (P / 2 ^ k / y*2 ^ k),loN (P / 2 ^ k / y*2 ^ k))=some (false,hiN (P / y),loN (P / y),((P % y:Nat):Int))
  | 0, f, _, hf => by
    obtain ⟨f,rfl⟩:∃ g,f=g+1:=⟨f - 1,by omega⟩
    rw [iter,show (((0:Nat):Int)) - 1=-1 from rfl,q31p,Nat.pow_zero,Nat.div_one,Nat.mul_one]
  | k + 1, f, hk, hf => by
    obtain ⟨f,rfl⟩:∃ g,f=g+1:=⟨f - 1,by omega⟩
    have ih:=q31q d (n:=n) (n2:=n2) (h2:=h2) (l2:=l2) hP hy hy2 k f (by omega) (by omega)
    rw [iter]
    revert ih
    generalize iter (q1yp d) f=self
    intro ih
    obtain ⟨b1,b2⟩:=q31j (P:=P) (k:=k) hy
    have hr:=Nat.mod_lt (P / 2 ^ (k+1)) hy
    have hc2:P / 2 ^ k % 2<2:=Nat.mod_lt _ (by omega)
    have hPh:P / 18446744073709551616<18446744073709551616:=by omega
    have hPl:P % 18446744073709551616<18446744073709551616:=Nat.mod_lt _ (by omega)
    have cj:decide (((k+1:Nat):Int) - 1≥0)=true:=decide_eq_true (by omega)
    have cjn:decide (((k+1:Nat):Int) - 1<0)=false:=decide_eq_false (by omega)
    have hj2:IntKind.wrap .i64 (((k+1:Nat):Int) - 1 - 1)=(k:Int) - 1:=by rw [IntWalk.i64_in _ (by omega)];omega
    have hjk:((k+1:Nat):Int) - 1=(k:Int):=by omega
    have hrr:IntKind.wrap .u64 (IntKind.wrap .u64 (2*((P / 2 ^ (k+1) % y:Nat):Int))+((P / 2 ^ k % 2:Nat):Int))=((2*(P / 2 ^ (k+1) % y)+P / 2 ^ k % 2:Nat):Int):=by
      rw [wu64 (a:=2*((P / 2 ^ (k+1) % y:Nat):Int)) (by omega),wu64 (by omega)];omega
    generalize hq:P / 2 ^ (k+1) / y=q at *
    generalize hrq:P / 2 ^ (k+1) % y=r at *
    generalize hcq:P / 2 ^ k % 2=c at *
    have ws:y≤2*r+c→IntKind.wrap .u64 (((2*r+c:Nat):Int) - (y:Int))=((2*r+c - y:Nat):Int):=fun h=>by rw [wu64 (by omega)];omega
    by_cases h64:64≤k
    · have hbit:andI .u64 (shrI .u64 (hiN P) ((k - 64:Nat):Int)) 1=(c:Int):=by
        rw [q2zw _ _ (by omega),show hiN P / ((2 ^ (k - 64):Nat):Int)=((P / 18446744073709551616 / 2 ^ (k - 64):Nat):Int) from rfl,and1 _ (Nat.lt_of_le_of_lt (Nat.div_le_self _ _) hPh),q31h h64,hcq]
      have hi64:IntKind.wrap .i64 (((k+1:Nat):Int) - 1 - 64)=((k - 64:Nat):Int):=by rw [IntWalk.i64_in _ (by omega)];omega
      rw [q31n d (f:=f) cj cjn (decide_eq_true (by omega)) hi64 (decide_eq_false (by omega)) hbit hrr hj2]
      obtain ⟨s1,s2,s3,s4⟩:=q31l (q:=q) h64 (by omega)
      by_cases h:y≤2*r+c
      · rw [if_pos h] at b1 b2
        rw [b1,b2] at ih
        have hb:(2*q+1)*2 ^ k≤P:=by rw [← b1];exact Nat.le_trans (Nat.mul_le_mul_right _ (Nat.div_le_self _ _)) (Nat.div_mul_le_self _ _)
        have ho:orI .u64 (hiN (q*2 ^ (k+1))) (shlI .u64 1 ((k - 64:Nat):Int))=hiN ((2*q+1)*2 ^ k):=by
          show orI .u64 (((q*2 ^ (k+1)) / 18446744073709551616:Nat):Int) _=((((2*q+1)*2 ^ k) / 18446744073709551616:Nat):Int)
          rw [s2,s4]
          exact q31k (by omega) (by rw [← s4];omega)
        have hl:loN (q*2 ^ (k+1))=loN ((2*q+1)*2 ^ k):=by
          show (((q*2 ^ (k+1)) % 18446744073709551616:Nat):Int)=((((2*q+1)*2 ^ k) % 18446744073709551616:Nat):Int)
          rw [s1,s3]
        rw [show decide (((2*r+c:Nat):Int)≥(y:Int))=true from decide_eq_true (by omega),cond_true,ws h,ho,hl]
        exact ih
      · rw [if_neg h] at b1 b2
        rw [b1,b2,Nat.add_zero,show 2*q*2 ^ k=q*2 ^ (k+1) by rw [Nat.pow_succ,Nat.mul_comm 2 q,Nat.mul_assoc,Nat.mul_comm 2]] at ih
        rw [show decide (((2*r+c:Nat):Int)≥(y:Int))=false from decide_eq_false (by omega),cond_false]
        exact ih
    · have hbit:andI .u64 (shrI .u64 (loN P) (((k+1:Nat):Int) - 1)) 1=(c:Int):=by
        rw [hjk,q2zw _ _ (by omega),show loN P / ((2 ^ k:Nat):Int)=((P % 18446744073709551616 / 2 ^ k:Nat):Int) from rfl,and1 _ (Nat.lt_of_le_of_lt (Nat.div_le_self _ _) hPl),q31i (by omega),hcq]
      rw [q31o d cj cjn (decide_eq_false (by omega)) hbit hrr hj2]
      obtain ⟨a,s1,s2,s3,s4⟩:=q31m (q:=q) (show k<64 by omega)
      by_cases h:y≤2*r+c
      · rw [if_pos h] at b1 b2
        rw [b1,b2] at ih
        have ho:orI .u64 (loN (q*2 ^ (k+1))) (shlI .u64 1 (((k+1:Nat):Int) - 1))=loN ((2*q+1)*2 ^ k):=by
          show orI .u64 (((q*2 ^ (k+1)) % 18446744073709551616:Nat):Int) _=((((2*q+1)*2 ^ k) % 18446744073709551616:Nat):Int)
          rw [hjk,s1,s3]
          exact q31k (by omega) s2
        have hl:hiN (q*2 ^ (k+1))=hiN ((2*q+1)*2 ^ k):=by
          show (((q*2 ^ (k+1)) / 18446744073709551616:Nat):Int)=((((2*q+1)*2 ^ k) / 18446744073709551616:Nat):Int)
          rw [s4]
        rw [show decide (((2*r+c:Nat):Int)≥(y:Int))=true from decide_eq_true (by omega),cond_true,ws h,ho,hl]
        exact ih
      · rw [if_neg h] at b1 b2
        rw [b1,b2,Nat.add_zero,show 2*q*2 ^ k=q*2 ^ (k+1) by rw [Nat.pow_succ,Nat.mul_comm 2 q,Nat.mul_assoc,Nat.mul_comm 2]] at ih
        rw [show decide (((2*r+c:Nat):Int)≥(y:Int))=false from decide_eq_false (by omega),cond_false]
        exact ih
theorem dvdC (d:Nat) (hd:200≤d) {s:Bool} {P y:Nat} (hP:P<340282366920938463463374607431768211456) (hy:0<y) (hy2:y≤9223372036854775808):q1yq d ((s,hiN P,loN P,()),((y:Int),()),())=some (false,hiN (P / y),loN (P / y),((P % y:Nat):Int)):=by
  have e:=q31q d (n:=s) (n2:=false) (h2:=0) (l2:=0) hP hy hy2 128 d (Nat.le_refl _) (by omega)
  have z:P / 2 ^ 128=0:=Nat.div_eq_of_lt hP
  rw [z,Nat.zero_mod,Nat.zero_div,Nat.zero_mul] at e
  simp only [q1yq,q1x3,q1x9,q1xd,q1xh,q1xl,Dt.eval]
  exact e
theorem q31r (d g:Nat) (a b:Nat) (hb:1≤b):iter (q1t0 d) (g+1) ((a:Int),(b:Int))=iter (q1t0 d) g ((b:Int),((a % b:Nat):Int)):=by
  rw [iter]
  generalize iter (q1t0 d) g=self
  unfold q1t0
  have c1:((b:Int) != 0)=true:=by rw [bne_iff_ne];omega
  have c2:((b:Int) == 0)=false:=by rw [beq_eq_false_iff_ne];omega
  have e1:(a:Int).tmod (b:Int)=((a % b:Nat):Int):=by rw [Int.tmod_eq_emod_of_nonneg (by omega)];rfl
  simp only [q1ss,q1su,q1sy,Dt.eval,c1,c2,cond_true,cond_false,e1]
theorem q31s (d g:Nat) (a:Nat):iter (q1t0 d) (g+1) ((a:Int),((0:Nat):Int))=some (a:Int):=by
  rw [iter]
  generalize iter (q1t0 d) g=self
  unfold q1t0
  simp only [q1ss,q1su,q1sy,Dt.eval,show (((0:Nat):Int) != 0)=false from rfl,cond_false]
theorem q31t (d:Nat):∀ (k f a b:Nat),b<2 ^ k→2*k+1≤f→iter (q1t0 d) f ((a:Int),(b:Int))=some ((Nat.gcd b a:Nat):Int)
  | 0, f, a, b, hb, hf => by
    obtain ⟨f,rfl⟩:∃ g,f=g+1:=⟨f - 1,by omega⟩
    obtain rfl:b=0:=by simpa using hb
    rw [q31s,Nat.gcd_zero_left]
  | k + 1, f, a, b, hb, hf => by
    obtain ⟨f,rfl⟩:∃ g,f=g+2:=⟨f - 2,by omega⟩
    rcases Nat.eq_zero_or_pos b with h | h
    · subst h
      rw [q31s,Nat.gcd_zero_left]
    · rw [q31r d (f + 1) a b h]
      have hr:=Nat.mod_lt a h
      have hg:Nat.gcd b a=Nat.gcd (a % b) b:=Nat.gcd_rec b a
      rw [hg]
      generalize a % b=r at *
      rcases Nat.eq_zero_or_pos r with h0 | h0
      · subst h0
        rw [q31s,Nat.gcd_zero_left]
      · rw [q31r d f b r h0,q31t d k f r (b % r) (q30m hb hr h0) (by omega),Nat.gcd_rec r b]
theorem q31u (d:Nat) (hd:200≤d) {a b:Nat} (hb:b<18446744073709551616):q1t1 d (((a:Int),()),((b:Int),()),())=some ((Nat.gcd a b:Nat):Int):=by
  simp only [q1t1,q1sk,q1so,Dt.eval]
  rw [q31t d 64 d a b hb (by omega),Nat.gcd_comm]
theorem q31v (d:Nat) {n1 n2:Bool} {p1 p0 q1 q0:Int}:q1v6 d ((n1,p1,p0,()),(n2,q1,q0,()),())=some (false,(bif decide (p0<q0) then IntKind.wrap .u64 (IntKind.wrap .u64 (p1 - q1) - 1) else IntKind.wrap .u64 (p1 - q1)),IntKind.wrap .u64 (p0 - q0)):=by
  unfold q1v6 q1v5
  simp only [q1v6,q1uh,q1un,q1ur,q1uv,q1uz,q1v3,Dt.eval]
  cases decide (p0<q0)<;>rfl
theorem q31w (d:Nat) {n1 n2:Bool} {P Q:Nat} (hP:P<340282366920938463463374607431768211456) (h:Q≤P):q1v6 d ((n1,hiN P,loN P,()),(n2,hiN Q,loN Q,()),())=some (false,hiN (P - Q),loN (P - Q)):=by
  rw [q31v]
  have h2:IntKind.wrap .u64 (loN P - loN Q)=loN (P - Q):=by
    rw [IntKind.wrap_u64]
    show (((P % 18446744073709551616:Nat):Int) - ((Q % 18446744073709551616:Nat):Int)) % 18446744073709551616=(((P - Q) % 18446744073709551616:Nat):Int)
    omega
  have h1:(bif decide (loN P<loN Q) then IntKind.wrap .u64 (IntKind.wrap .u64 (hiN P - hiN Q) - 1) else IntKind.wrap .u64 (hiN P - hiN Q))=hiN (P - Q):=by
    rw [IntKind.wrap_u64,IntKind.wrap_u64]
    by_cases hb:P % 18446744073709551616<Q % 18446744073709551616
    · rw [show decide (loN P < loN Q) = true from decide_eq_true (by show ((_ : Nat) : Int) < ((_ : Nat) : Int); omega), cond_true]
      show ((((P / 18446744073709551616:Nat):Int) - ((Q / 18446744073709551616:Nat):Int)) % 18446744073709551616 - 1) % 18446744073709551616=(((P - Q) / 18446744073709551616:Nat):Int)
      omega
    · rw [show decide (loN P < loN Q) = false from decide_eq_false (by show ¬ ((_ : Nat) : Int) < ((_ : Nat) : Int); omega), cond_false]
      show (((P / 18446744073709551616:Nat):Int) - ((Q / 18446744073709551616:Nat):Int)) % 18446744073709551616=(((P - Q) / 18446744073709551616:Nat):Int)
      omega
  rw [h1,h2]
theorem q31x (d:Nat) {n:Bool} {p1 p0 q1 q0:Int}:q1wv d ((n,p1,p0,()),(n,q1,q0,()),())=some (n,(bif decide (IntKind.wrap .u64 (p0+q0)<p0) then IntKind.wrap .u64 (IntKind.wrap .u64 (p1+q1)+1) else IntKind.wrap .u64 (p1+q1)),IntKind.wrap .u64 (p0+q0)):=by
  unfold q1wv q1w6
  simp only [q1wv,q1ve,q1vk,q1vo,q1vs,q1vw,q1w0,q1w4,Dt.eval,beq_self_eq_true,cond_true]
  cases decide (IntKind.wrap .u64 (p0+q0)<p0)<;>rfl
theorem q31y (d:Nat) {n1 n2:Bool} {p1 p0 q1 q0 z X1 X2:Int} (c1:(n1 == n2)=false) (e1:q1u9 d ((n1,p1,p0,()),(n2,q1,q0,()),())=some z) (hz:decide (z≥0)=true) (e2:q1v6 d ((n1,p1,p0,()),(n2,q1,q0,()),())=some (false,X1,X2)):q1wv d ((n1,p1,p0,()),(n2,q1,q0,()),())=some (bif n1 then (bif decide (X1 > 0) then true else decide (X2 > 0)) else false,X1,X2):=by
  unfold q1wv
  simp only [q1vk,q1vo,q1w9,q1wd,q1wh,q1wj,q1ve,Dt.eval,c1,cond_false,e1,hz,cond_true,e2]
  cases n1 with
  | false=>rfl
  | true=>simp only [cond_true];cases decide (X1 > 0)<;>rfl
theorem q31z (d:Nat) {n1 n2:Bool} {p1 p0 q1 q0 z X1 X2:Int} (c1:(n1 == n2)=false) (e1:q1u9 d ((n1,p1,p0,()),(n2,q1,q0,()),())=some z) (hz:decide (z≥0)=false) (e2:q1v6 d ((n2,q1,q0,()),(n1,p1,p0,()),())=some (false,X1,X2)):q1wv d ((n1,p1,p0,()),(n2,q1,q0,()),())=some (n2,X1,X2):=by
  unfold q1wv
  simp only [q1vk,q1vo,q1w9,q1wn,q1wr,q1wt,q1ve,Dt.eval,c1,cond_false,e1,hz,e2]
theorem q320 (d:Nat) {n:Bool} {P Q:Nat} (hP:P<170141183460469231731687303715884105728) (hQ:Q<170141183460469231731687303715884105728):q1wv d ((n,hiN P,loN P,()),(n,hiN Q,loN Q,()),())=some (n,hiN (P+Q),loN (P+Q)):=by
  rw [q31x]
  have h2:IntKind.wrap .u64 (loN P+loN Q)=loN (P+Q):=by
    rw [IntKind.wrap_u64]
    show (((P % 18446744073709551616:Nat):Int)+((Q % 18446744073709551616:Nat):Int)) % 18446744073709551616=(((P+Q) % 18446744073709551616:Nat):Int)
    omega
  rw [h2]
  have h1:(bif decide (loN (P+Q)<loN P) then IntKind.wrap .u64 (IntKind.wrap .u64 (hiN P+hiN Q)+1) else IntKind.wrap .u64 (hiN P+hiN Q))=hiN (P+Q):=by
    rw [IntKind.wrap_u64,IntKind.wrap_u64]
    by_cases hb:(P+Q) % 18446744073709551616<P % 18446744073709551616
    · rw [show decide (loN (P + Q) < loN P) = true from decide_eq_true (by show ((_ : Nat) : Int) < ((_ : Nat) : Int); omega), cond_true]
      show ((((P / 18446744073709551616:Nat):Int)+((Q / 18446744073709551616:Nat):Int)) % 18446744073709551616+1) % 18446744073709551616=(((P+Q) / 18446744073709551616:Nat):Int)
      omega
    · rw [show decide (loN (P + Q) < loN P) = false from decide_eq_false (by show ¬ ((_ : Nat) : Int) < ((_ : Nat) : Int); omega), cond_false]
      show (((P / 18446744073709551616:Nat):Int)+((Q / 18446744073709551616:Nat):Int)) % 18446744073709551616=(((P+Q) / 18446744073709551616:Nat):Int)
      omega
  rw [h1]
theorem q321 (P:Nat):(bif decide (hiN P > 0) then true else decide (loN P > 0))=decide (P≠0):=by
  by_cases h:P=0
  · subst h;rfl
  · rw [decide_eq_true h]
    by_cases h1:P / 18446744073709551616=0
    · rw [show decide (hiN P > 0) = false from decide_eq_false (by show ¬ ((_ : Nat) : Int) > 0; omega), cond_false]
      exact decide_eq_true (by show ((_:Nat):Int) > 0;omega)
    · rw [show decide (hiN P > 0)=true from decide_eq_true (by show ((_:Nat):Int) > 0;omega),cond_true]
theorem q322 (d:Nat) {x y:Int} (hx:x.natAbs<85070591730234615865843651857942052864) (hy:y.natAbs<85070591730234615865843651857942052864):q1wv d ((decide (x<0),hiN x.natAbs,loN x.natAbs,()),(decide (y<0),hiN y.natAbs,loN y.natAbs,()),())=some (decide (x+y<0),hiN (x+y).natAbs,loN (x+y).natAbs):=by
  by_cases hs:decide (x<0)=decide (y<0)
  · rw [hs, q320 d (by omega) (by omega)]
    by_cases h:y<0
    · rw [decide_eq_true h] at hs ⊢
      have hx0:=of_decide_eq_true hs
      rw [decide_eq_true (show x+y<0 by omega),show x.natAbs+y.natAbs=(x+y).natAbs by omega]
    · rw [decide_eq_false h] at hs ⊢
      have hx0:=of_decide_eq_false hs
      rw [decide_eq_false (show ¬ x+y<0 by omega),show x.natAbs+y.natAbs=(x+y).natAbs by omega]
  · have c1 : (decide (x < 0) == decide (y < 0)) = false := by simpa using hs
    have e1:=q2ty d (decide (x<0)) (decide (y<0)) x.natAbs y.natAbs
    by_cases h:x.natAbs<y.natAbs
    · rw [qkd (by omega)] at e1
      have e2:=q31w d (n1:=decide (y<0)) (n2:=decide (x<0)) (P:=y.natAbs) (Q:=x.natAbs) (by omega) (by omega)
      rw [q31z d c1 e1 rfl e2]
      have:decide (y<0)=decide (x+y<0):=by
        by_cases h1:y<0
        · rw [decide_eq_true h1,decide_eq_true (show x+y<0 by omega)]
        · rw [decide_eq_false h1,decide_eq_false (show ¬ x+y<0 by omega)]
      have hxy:¬ ((x<0)↔(y<0)):=fun k=>hs (by rw [decide_eq_decide];exact k)
      rw [this,show y.natAbs - x.natAbs=(x+y).natAbs by omega]
    · have e2 := q31w d (n1 := decide (x < 0)) (n2 := decide (y < 0)) (P := x.natAbs) (Q := y.natAbs) (by omega) (by omega)
      have hz:decide (cmpZ (x.natAbs:Int) (y.natAbs:Int)≥0)=true:=by
        rcases Nat.lt_or_eq_of_le (Nat.le_of_not_lt h) with k | k
        · rw [qke (by omega)];rfl
        · rw [qkf (by omega)];rfl
      rw [q31y d c1 e1 hz e2,q321]
      have hxy:¬ ((x<0)↔(y<0)):=fun k=>hs (by rw [decide_eq_decide];exact k)
      have hn:x.natAbs - y.natAbs=(x+y).natAbs:=by omega
      have hd:(bif decide (x<0) then decide (x.natAbs - y.natAbs≠0) else false)=decide (x+y<0):=by
        by_cases h1:x<0
        · rw [decide_eq_true h1,cond_true,decide_eq_decide];omega
        · rw [decide_eq_false h1,cond_false];exact (decide_eq_false (by omega)).symm
      rw [hd,hn]
theorem q323 (d:Nat) {neg n1 n2:Bool} {p1 p0 q1 q0:Int}:q20m d ((neg,()),(n1,p1,p0,()),(n2,q1,q0,()),())=some (bif decide (p1 > 0) then (0,0,16) else bif decide (p0 > 9223372036854775807) then (0,0,16) else bif decide (q1 > 0) then (0,0,16) else bif decide (q0 > 9223372036854775807) then (0,0,16) else bif neg then (IntKind.wrap .i64 (0 - IntKind.wrap .i64 p0),IntKind.wrap .i64 q0,0) else (IntKind.wrap .i64 p0,IntKind.wrap .i64 q0,0)):=by
  simp only [q20m,q1zy,q204,q208,q20c,q20g,q20i,q20k,Dt.eval]
  cases decide (p1 > 0)<;>cases decide (p0 > 9223372036854775807)<;>cases decide (q1 > 0)<;>cases decide (q0 > 9223372036854775807)<;>cases neg<;>rfl
theorem q324 {N:Nat}:(hiN N > 0∨loN N > 9223372036854775807)↔9223372036854775807<N:=by
  show (((N / 18446744073709551616:Nat):Int) > 0∨((N % 18446744073709551616:Nat):Int) > 9223372036854775807)↔_
  omega
theorem q325 (d:Nat) {neg n1 n2:Bool} {N D:Nat}:q20m d ((neg,()),(n1,hiN N,loN N,()),(n2,hiN D,loN D,()),())=some (fitQ (sgn neg N) (D:Int)):=by
  rw [q323]
  have hf:fitQ (sgn neg N) (D:Int)=if N≤9223372036854775807∧D≤9223372036854775807 then (sgn neg N,(D:Int),0) else (0,0,16):=by
    unfold fitQ;rw [q30h,Int.natAbs_natCast]
  rw [hf]
  have t1:=q324 (N:=N)
  have t2:=q324 (N:=D)
  by_cases h1:N≤9223372036854775807
  · have a1 : ¬ hiN N > 0 := fun k => by have := t1.1 (.inl k); omega
    have a2:¬ loN N > 9223372036854775807:=fun k=>by have:=t1.1 (.inr k);omega
    rw [decide_eq_false a1,decide_eq_false a2,cond_false,cond_false]
    by_cases h2:D≤9223372036854775807
    · have a3 : ¬ hiN D > 0 := fun k => by have := t2.1 (.inl k); omega
      have a4:¬ loN D > 9223372036854775807:=fun k=>by have:=t2.1 (.inr k);omega
      rw [decide_eq_false a3,decide_eq_false a4,cond_false,cond_false,if_pos ⟨h1,h2⟩]
      have w1:IntKind.wrap .i64 (loN N)=(N:Int):=by rw [show loN N=(N:Int) by show ((_:Nat):Int)=_;omega];exact q31a h1
      have w2:IntKind.wrap .i64 (loN D)=(D:Int):=by rw [show loN D=(D:Int) by show ((_:Nat):Int)=_;omega];exact q31a h2
      have w3:IntKind.wrap .i64 (0 - (N:Int))=-(N:Int):=by rw [IntWalk.i64_in _ (by omega)];omega
      rw [w1,w2,w3]
      cases neg<;>rfl
    · rw [if_neg (by omega)]
      by_cases a3:hiN D > 0
      · rw [decide_eq_true a3,cond_true]
      · have a4:loN D > 9223372036854775807:=by
          rcases t2.2 (by omega) with k | k
          · exact absurd k a3
          · exact k
        rw [decide_eq_false a3,decide_eq_true a4,cond_false,cond_true]
  · rw [if_neg (by omega)]
    by_cases a1:hiN N > 0
    · rw [decide_eq_true a1,cond_true]
    · have a2:loN N > 9223372036854775807:=by
        rcases t1.2 (by omega) with k | k
        · exact absurd k a1
        · exact k
      rw [decide_eq_false a1,decide_eq_true a2,cond_false,cond_true]
theorem q326 (d:Nat) {ah al bh bl m0 m n:Int} {a b:Int} (e1:IntKind.wrap .u64 (a.tdiv 4294967296)=ah) (e2:a.tmod 4294967296=al) (e3:IntKind.wrap .u64 (b.tdiv 4294967296)=bh) (e4:b.tmod 4294967296=bl) (e5:IntKind.wrap .u64 (al*bl)=m0) (e6:IntKind.wrap .u64 (IntKind.wrap .u64 (ah*bl)+IntKind.wrap .u64 (m0.tdiv 4294967296))=m) (e7:IntKind.wrap .u64 (IntKind.wrap .u64 (al*bh)+m.tmod 4294967296)=n) :
    q1zq d ((a,()),(b,()),())=some (false,IntKind.wrap .u64 (IntKind.wrap .u64 (IntKind.wrap .u64 (ah*bh)+IntKind.wrap .u64 (m.tdiv 4294967296))+IntKind.wrap .u64 (n.tdiv 4294967296)),IntKind.wrap .u64 (IntKind.wrap .u64 (n.tmod 4294967296*4294967296)+m0.tmod 4294967296)):=by
  simp only [q1zq,q1yy,q1z4,q1z8,q1zc,q1zg,q1zk,q1zo,Dt.eval,show ((4294967296:Int) == 0)=false from rfl,cond_false,e1,e2,e3,e4,e5,e6,e7]
theorem q327 (a g:Nat):(a:Int).tmod (g:Int)=((a % g:Nat):Int):=by rw [Int.tmod_eq_emod_of_nonneg (by omega)];rfl
theorem q328 (d:Nat) {a b:Nat} (ha:a<18446744073709551616) (hb:b<18446744073709551616):q1zq d (((a:Int),()),((b:Int),()),())=some (false,hiN (a*b),loN (a*b)):=by
  obtain ⟨ah,hah⟩:∃ x:Nat,a / 4294967296=x:=⟨_,rfl⟩
  obtain ⟨al,hal⟩:∃ x:Nat,a % 4294967296=x:=⟨_,rfl⟩
  obtain ⟨bh,hbh⟩:∃ x:Nat,b / 4294967296=x:=⟨_,rfl⟩
  obtain ⟨bl,hbl⟩:∃ x:Nat,b % 4294967296=x:=⟨_,rfl⟩
  obtain ⟨m0,hm0⟩:∃ x:Nat,al*bl=x:=⟨_,rfl⟩
  obtain ⟨x1,hx1⟩:∃ x:Nat,ah*bl=x:=⟨_,rfl⟩
  obtain ⟨y1,hy1⟩:∃ x:Nat,al*bh=x:=⟨_,rfl⟩
  obtain ⟨z1,hz1⟩:∃ x:Nat,ah*bh=x:=⟨_,rfl⟩
  have b0:m0≤4294967295*4294967295:=by rw [← hm0];exact Nat.mul_le_mul (by omega) (by omega)
  have b1:x1≤4294967295*4294967295:=by rw [← hx1];exact Nat.mul_le_mul (by omega) (by omega)
  have b2:y1≤4294967295*4294967295:=by rw [← hy1];exact Nat.mul_le_mul (by omega) (by omega)
  have b3:z1≤4294967295*4294967295:=by rw [← hz1];exact Nat.mul_le_mul (by omega) (by omega)
  have hab:a*b=z1*18446744073709551616+(x1+y1)*4294967296+m0:=by
    have e1:a=ah*4294967296+al:=by omega
    have e2:b=bh*4294967296+bl:=by omega
    rw [e1,e2,Nat.add_mul,Nat.mul_add,Nat.mul_add]
    have f1:ah*4294967296*(bh*4294967296)=z1*18446744073709551616:=by rw [← hz1,Nat.mul_mul_mul_comm]
    have f2:ah*4294967296*bl=x1*4294967296:=by rw [← hx1,Nat.mul_right_comm]
    have f3:al*(bh*4294967296)=y1*4294967296:=by rw [← hy1,Nat.mul_assoc]
    rw [f1,f2,f3,hm0,Nat.add_mul];omega
  have p1:(ah:Int)*(bl:Int)=(x1:Int):=by rw [← hx1];simp
  have p2:(al:Int)*(bh:Int)=(y1:Int):=by rw [← hy1];simp
  have p3:(ah:Int)*(bh:Int)=(z1:Int):=by rw [← hz1];simp
  have p4:(al:Int)*(bl:Int)=(m0:Int):=by rw [← hm0];simp
  have k:=q326 d (a:=(a:Int)) (b:=(b:Int)) (ah:=(ah:Int)) (al:=(al:Int)) (bh:=(bh:Int)) (bl:=(bl:Int)) (m0:=(m0:Int)) (m:=((x1+m0 / 4294967296:Nat):Int)) (n:=((y1+(x1+m0 / 4294967296) % 4294967296:Nat):Int))
    (by rw [show (a:Int).tdiv 4294967296=((a / 4294967296:Nat):Int) from q318 a 4294967296,hah];exact q319 (by omega)) (by rw [show (a:Int).tmod 4294967296=((a % 4294967296:Nat):Int) from q327 a 4294967296,hal]) (by rw [show (b:Int).tdiv 4294967296=((b / 4294967296:Nat):Int) from q318 b 4294967296,hbh];exact q319 (by omega)) (by rw [show (b:Int).tmod 4294967296=((b % 4294967296:Nat):Int) from q327 b 4294967296,hbl]) (by rw [p4];exact q319 (by omega))
    (by rw [p1,show (m0:Int).tdiv 4294967296=((m0 / 4294967296:Nat):Int) from q318 m0 4294967296,q319 (show x1<18446744073709551616 by omega),q319 (show m0 / 4294967296<18446744073709551616 by omega),wu64 (by omega)];omega)
    (by rw [p2,show (((x1+m0 / 4294967296:Nat):Int)).tmod 4294967296=(((x1+m0 / 4294967296) % 4294967296:Nat):Int) from q327 _ 4294967296,q319 (show y1<18446744073709551616 by omega),wu64 (by omega)];omega)
  rw [k,p3,show (((x1+m0 / 4294967296:Nat):Int)).tdiv 4294967296=(((x1+m0 / 4294967296) / 4294967296:Nat):Int) from q318 _ 4294967296,show (((y1+(x1+m0 / 4294967296) % 4294967296:Nat):Int)).tdiv 4294967296=(((y1+(x1+m0 / 4294967296) % 4294967296) / 4294967296:Nat):Int) from q318 _ 4294967296,show (((y1+(x1+m0 / 4294967296) % 4294967296:Nat):Int)).tmod 4294967296=(((y1+(x1+m0 / 4294967296) % 4294967296) % 4294967296:Nat):Int) from q327 _ 4294967296,show (m0:Int).tmod 4294967296=((m0 % 4294967296:Nat):Int) from q327 _ 4294967296]
  have w1:IntKind.wrap .u64 (IntKind.wrap .u64 (IntKind.wrap .u64 (z1:Int)+IntKind.wrap .u64 (((x1+m0 / 4294967296) / 4294967296:Nat):Int))+IntKind.wrap .u64 (((y1+(x1+m0 / 4294967296) % 4294967296) / 4294967296:Nat):Int))=hiN (a*b):=by
    rw [IntKind.wrap_u64,IntKind.wrap_u64,IntKind.wrap_u64,IntKind.wrap_u64,IntKind.wrap_u64]
    show _=((a*b / 18446744073709551616:Nat):Int)
    rw [hab]
    omega
  have w2:IntKind.wrap .u64 (IntKind.wrap .u64 ((((y1+(x1+m0 / 4294967296) % 4294967296) % 4294967296:Nat):Int)*4294967296)+((m0 % 4294967296:Nat):Int))=loN (a*b):=by
    rw [IntKind.wrap_u64,IntKind.wrap_u64]
    show _=((a*b % 18446744073709551616:Nat):Int)
    rw [hab]
    omega
  rw [w1,w2]
theorem q329 (d:Nat) {n m:Int} (hn:i64B n=true) (hm:i64B m=true):qmm d ((n,()),(m,()),())=some (decide (n*m<0),hiN (n*m).natAbs,loN (n*m).natAbs):=qmn _ _ (by unfold qml;simp only [hn,hm,Bool.and_self])
theorem sgnD (x:Int):sgn (decide (x<0)) x.natAbs=x:=by
  unfold sgn
  by_cases h:x<0
  · rw [decide_eq_true h,if_pos rfl];omega
  · rw [decide_eq_false h,if_neg (by decide)];omega
theorem q32a (d:Nat) (hd:200≤d) {n1 d1 n2 d2:Int} (hn1:i64B n1=true) (hd1:i64B d1=true) (hn2:i64B n2=true) (hd2:i64B d2=true) (c1:qcv n1 d1=0) (c2:qcv n2 d2=0):q21w d ((n1,d1,()),(n2,d2,()),())=some (red (n1*d2+n2*d1) (d1*d2)):=by
  have e0:=q2vh d hn1 hd1 hn2 hd2
  rw [if_neg (by simpa using c1),c2] at e0
  obtain ⟨a,rfl,a1,a2,a3,a4⟩:=q317 c1 hn1 hd1
  obtain ⟨b,rfl,b1,b2,b3,b4⟩:=q317 c2 hn2 hd2
  obtain ⟨g1,g2,g3,_,_,pa,pb,_⟩:=q315 a1 b1
  have hlow:=fun s N=>@q316 n1 n2 a b N s a1 b1 a4 b4
  have e1:=q31u d hd (a:=a) (b:=b) (by omega)
  have q1:=q31d (g:=Nat.gcd a b) a2
  have q2:=q31d (g:=Nat.gcd a b) b2
  generalize Nat.gcd a b=g at *
  have e2:=q329 d (n:=n1) (m:=((b / g:Nat):Int)) hn1 (i64N q2)
  have e3:=q329 d (n:=n2) (m:=((a / g:Nat):Int)) hn2 (i64N q1)
  have m1:=q314 (a:=n1) (b:=((b / g:Nat):Int)) (by omega) (by omega)
  have m2:=q314 (a:=n2) (b:=((a / g:Nat):Int)) (by omega) (by omega)
  have t1:=q318 b g
  have t2:=q318 a g
  generalize a / g=a' at *
  generalize b / g=b' at *
  have e4:=q322 d (x:=n1*(b':Int)) (y:=n2*(a':Int)) (by omega) (by omega)
  have hX:(n1*(b':Int)+n2*(a':Int)).natAbs<340282366920938463463374607431768211456:=by omega
  generalize n1*(b':Int)+n2*(a':Int)=X at *
  replace hlow:=hlow (decide (X<0)) X.natAbs (sgnD X).symm
  have e5:=dvdC d hd (s:=decide (X<0)) (P:=X.natAbs) (y:=g) hX (by omega) (by omega)
  have e6:=q31u d hd (a:=g) (b:=X.natAbs % g) (by have:=Nat.mod_lt X.natAbs (show 0<g by omega);omega)
  rw [show Nat.gcd g (X.natAbs % g)=Nat.gcd X.natAbs g by rw [Nat.gcd_comm X.natAbs g,Nat.gcd_rec g X.natAbs,Nat.gcd_comm]] at e6
  have hh1:1≤Nat.gcd X.natAbs g:=Nat.gcd_pos_of_pos_right _ g1
  have hh2:Nat.gcd X.natAbs g≤g:=Nat.gcd_le_right _ (by omega)
  generalize Nat.gcd X.natAbs g=h at *
  have e7:=dvdC d hd (s:=decide (X<0)) (P:=X.natAbs) (y:=h) hX (by omega) (by omega)
  have t3:=q318 b h
  have q3:=q31d (g:=h) b2
  generalize X.natAbs / h=m at *
  generalize b / h=c at *
  have e8:=q328 d (a:=a') (b:=c) (by omega) (by omega)
  have e9:=q325 d (neg:=decide (X<0)) (n1:=false) (n2:=false) (N:=m) (D:=a'*c)
  rw [q2ze (by
    have:=Int.mul_pos (show (0:Int)<(a:Int) by omega) (show (0:Int)<(b:Int) by omega);omega) hlow]
  simp only [q21w,q20u,q210,q214,q218,q21c,q21g,q21k,q21o,q21s,q21u,Dt.eval,e0,show ((0:Int) != 0)=false from rfl,cond_false,q319 (show a<18446744073709551616 by omega),q319 (show b<18446744073709551616 by omega),e1,q31a (show g≤9223372036854775807 by omega),neN g1,neN hh1,t1,t2,t3,q31a q1,q31a q2,e2,e3,e4,q319 (show g<18446744073709551616 by omega),e5,e6,e7,q319 (show a'<18446744073709551616 by omega),q319 (show c<18446744073709551616 by omega),e8,e9]
theorem q32b {n1 d1 n2 d2:Int} (hc:¬ (qcv n1 d1=0∧qcv n2 d2=0)):(if qcv n1 d1≠0 then qcv n1 d1 else qcv n2 d2)=8:=by
  rcases qd1 n1 d1 with q1 | q1<;>rcases qd1 n2 d2 with q2 | q2
  · exact absurd ⟨q1,q2⟩ hc
  all_goals simp [q1,q2]
theorem q32d (d:Nat) (hd:200≤d) {n1 d1 n2 d2:Int} (hn1:i64B n1=true) (hd1:i64B d1=true) (hn2:i64B n2=true) (hd2:i64B d2=true):q22m d ((n1,d1,()),(n2,d2,()),())=some (subV n1 d1 n2 d2):=by
  unfold subV
  have e0:=q2vh d hn1 hd1 hn2 hd2
  by_cases hc:qcv n1 d1=0∧qcv n2 d2=0
  · rw [if_pos hc]
    rw [if_neg (by simpa using hc.1),hc.2] at e0
    obtain ⟨k1,k2,k3⟩:=q31f hc.2 hn2
    have e1:=q32a d hd hn1 hd1 k2 hd2 hc.1 k1
    rw [Int.neg_mul,show n1*d2 + -(n2*d1)=n1*d2 - n2*d1 by omega] at e1
    simp only [q22m,q224,q22a,q22e,q22i,q22k,Dt.eval,e0,show ((0:Int) != 0)=false from rfl,cond_false,k3,e1]
  · rw [if_neg hc]
    rw [q32b hc] at e0
    simp only [q22m,q224,q22a,q22e,q22i,Dt.eval,e0,show ((8:Int) != 0)=true from rfl,cond_true]
end Go.Proofs.YtpfhgnccpiildaaGreat

namespace Go.Pel
open Go Go.Tx
end Go.Pel
namespace Go.Proofs.YtpfhgnccpiildaaGreat
open Go Go.Tx Go.Pel
end Go.Proofs.YtpfhgnccpiildaaGreat

namespace Go.Proofs.YtpfhgnccpiildaaGreat
open Go Go.Tx Go.Pel
theorem q32l (d:Nat) {l:List T3} (hlen:l.length≤1000) (id:Int):qpv d ((l,()),(id,()),())=some (atI (ptsL l) id):=by
  rw [qpw _ _ (by unfold qpu;rw [decide_eq_true_eq];show (ptsL l).length≤_;rw [qil];omega)]
theorem q32m {l:List T3} (h:FldOk l) {p:T3} (hp:p∈l):∃ k:Nat,l[k]?=some p∧atI (ptsL l) p.1=k:=by
  obtain ⟨k,hk⟩:=List.mem_iff_getElem?.1 hp
  refine ⟨k,hk,qgc (p:=ofP p) (fun j q hj hq=>?_) (by unfold ptsL;rw [List.getElem?_map,hk];rfl) rfl⟩
  unfold ptsL at hq
  rw [List.getElem?_map] at hq
  obtain ⟨hil,rfl⟩:=List.getElem?_eq_some_iff.1 hk
  rw [List.getElem?_eq_getElem (by omega)] at hq
  injection hq with hq
  subst hq
  have:=(List.pairwise_iff_getElem.1 h.inc) j k (by omega) hil hj
  show (l[j]).1≠(l[k]).1
  omega
def Last (l:List T3) (n dd:Int) (p:T3):Prop:=p∈l∧∀ q∈l,leads (ofP p) (ofP q) n dd=false
theorem q32n (l:List T3) (n dd:Int):(ordI n dd (ptsL l)).length=l.length:=by rw [(qur n dd (ptsL l)).length_eq,qil]
theorem Last.uniq {l:List T3} (h:FldOk l) {n dd:Int} {p q:T3} (hp:Last l n dd p) (hq:Last l n dd q):p=q:=by
  refine Classical.byContradiction fun hne=>?_
  have hi:p.1≠q.1:=fun e=>hne (q2x3 h hp.1 hq.1 e)
  have h1:=hp.2 q hq.1
  have h2:=hq.2 p hp.1
  rw [q2wq (p:=ofP p) (q:=ofP q) hi,h1] at h2
  cases h2
theorem q32r (d:Nat) {l:List T3} (h:FldOk l) (h0:qfx (ptsL l)=0) {n dd:Int} (hn:i64B n=true) (hd:i64B dd=true) (hr:qcv n dd=0):qwk d ((l,()),(n,dd,()),())=some (unI ((ordI n dd (ptsL l)).map Pt.id)):=by
  have hl64:=h.len
  rw [qwl _ _ (by
    unfold qwj
    simp only [Bool.and_eq_true,decide_eq_true_eq,List.all_eq_true]
    refine ⟨by rw [qil];omega,fun P hP Q hQ=>?_⟩
    obtain ⟨p,hp,rfl⟩:=q2wx hP
    obtain ⟨q,hq,rfl⟩:=q2wx hQ
    exact qm6 (qle (p:=ofP q) (q:=ofP p) (h.ok q hq) (h.ok p hp) hr (qiq hn) (qiq hd)))]
  show some (unI (ordK (ptsL l) n dd (ptsL l).length))=_
  rw [q2yt (qg2 h0).2.2,quu (qg2 h0).2.2 (qd2 hr).1]
end Go.Proofs.YtpfhgnccpiildaaGreat

namespace Go.Proofs.YtpfhgnccpiildaaGreat
open Go Go.Tx Go.Pel
def hasT (l:List T3) (id:Int):Bool:=l.any fun p=>p.1 == id
theorem q331 {l:List T3} {id:Int}:hasT l id=true ↔ ∃ p∈l,p.1=id:=by
  unfold hasT
  simp only [List.any_eq_true,beq_iff_eq]
theorem q332 {l:List T3} {id:Int} (h:hasT l id=false) {p:T3} (hp:p∈l):p.1≠id:=fun e=>by
  rw [q331.2 ⟨p,hp,e⟩] at h;cases h
theorem q333 {l:List T3} {id:Int} (h:hasT l id=false):hasB (ptsL l) id=false:=qgd fun i P hP=>by
  obtain ⟨p,hp,rfl⟩:=q2wx (List.mem_of_getElem? hP)
  exact q332 h hp
theorem q334 (d:Nat) {l:List T3} (h0:qfx (ptsL l)=0) {id:Int} (hh:hasT l id=false):∃ a b c,qvk d ((l,()),(id,()),())=some (a,b,c,6):=by
  rw [qvl _ _ rfl]
  have hb:=q333 hh
  have e:(qgf (ptsL l) id).2=6:=by
    unfold qgf
    rw [if_neg (by simpa using h0),hb];rfl
  refine ⟨(qgf (ptsL l) id).1.id,(qgf (ptsL l) id).1.a,(qgf (ptsL l) id).1.b,?_⟩
  show some ((qgf (ptsL l) id).1.id,(qgf (ptsL l) id).1.a,(qgf (ptsL l) id).1.b,(qgf (ptsL l) id).2)=_
  rw [e]
def b5 (w:T5):Prop:=i64B w.1=true∧i64B w.2.1=true∧i64B w.2.2.1=true∧i64B w.2.2.2.1=true
theorem q335 {t u:Int} (ht:i64B t=true) (hu:i64B u=true):∀ (x:T3) (r:List T3),bdL (x :: r)→∀ w∈reiL t u x r,b5 w
  | x, [], hb, w, hw => by
    unfold reiL at hw
    rw [List.mem_singleton] at hw
    rw [hw]
    have:=hb x (List.mem_cons_self ..)
    exact ⟨this.1,this.2,ht,hu⟩
  | x, y :: r, hb, w, hw => by
    have hx:=hb x (List.mem_cons_self ..)
    have hy:=hb y (List.mem_cons_of_mem _ (List.mem_cons_self ..))
    unfold reiL at hw
    split at hw
    · rcases List.mem_cons.1 hw with e | e
      · rw [e];exact ⟨hx.1,hx.2,hy.1,hy.2⟩
      · exact q335 ht hu y r (fun z hz=>hb z (List.mem_cons_of_mem _ hz)) w e
    · rw [List.mem_singleton] at hw
      rw [hw];exact ⟨hx.1,hx.2,ht,hu⟩
def timS (id:Int):List T5→Int×Int×Int
  | []=>(0,1,0)
  | w :: r=>if w.2.2.2.2.1=id then subV w.2.2.1 w.2.2.2.1 w.1 w.2.1 else timS id r
theorem q336 (d:Nat) (hd:200≤d) {L:List T5} {id:Int} (hb:∀ w∈L,b5 w) (hlen:L.length≤1000):∀ (f i:Nat),L.length - i<f→i≤L.length→iter (q2h4 d) f (id,(L.length:Int),(i:Int),(0:Int),(0:Int),L)=some (timS id (L.drop i))
  | 0,i,hf,_=>by omega
  | f + 1, i, hf, hi => by
    have ih:=q336 d hd (id:=id) hb hlen f (i+1)
    rw [iter]
    revert ih
    generalize iter (q2h4 d) f=self
    intro ih
    unfold q2h4
    by_cases hlt:i<L.length
    · obtain ⟨w, hw⟩ : ∃ w, L[i]? = some w := ⟨_, List.getElem?_eq_getElem hlt⟩
      obtain ⟨k1,k2,k3,k4⟩:=hb w (List.mem_of_getElem? hw)
      have e1:=subC d hd k3 k4 k1 k2
      have wi:=q2va (show i<1000000 by omega)
      rw [q2vf hw]
      unfold timS
      by_cases h:w.2.2.2.2.1=id
      · rw [if_pos h]
        simp only [q2go,q2gs,q2gw,q2gy,q2h0,q2h2,Dt.eval,q2fk,q2vd hlt,cond_true,q2vc hlt,q2vb hw,show (w.2.2.2.2.1 == id)=true by rw [beq_iff_eq];exact h,e1]
      · rw [if_neg h]
        simp only [q2go,q2gs,q2gw,q2gy,q2h0,q2h2,Dt.eval,q2fk,q2vd hlt,cond_true,q2vc hlt,q2vb hw,show (w.2.2.2.2.1 == id)=false by rw [beq_eq_false_iff_ne];exact h,cond_false,wi]
        exact ih (by omega) (by omega)
    · have hkl : i = L.length := by omega
      simp only [q2go,q2gs,q2gw,q2gy,q2h0,q2h2,Dt.eval,q2ve hlt,cond_false]
      rw [hkl,List.drop_length]
      rfl
theorem q337 (d:Nat) (hd:200≤d) {L:List T5} {id:Int} (hb:∀ w∈L,b5 w) (hlen:L.length≤1000):∀ (f i:Nat),L.length - i<f→i≤L.length→iter (q2qq d) f (id,(i:Int),(0:Int),(0:Int),L)=some (timS id (L.drop i))
  | 0,i,hf,_=>by omega
  | f + 1, i, hf, hi => by
    have ih:=q337 d hd (id:=id) hb hlen f (i+1)
    rw [iter]
    revert ih
    generalize iter (q2qq d) f=self
    intro ih
    unfold q2qq
    by_cases hlt:i<L.length
    · obtain ⟨w, hw⟩ : ∃ w, L[i]? = some w := ⟨_, List.getElem?_eq_getElem hlt⟩
      obtain ⟨k1,k2,k3,k4⟩:=hb w (List.mem_of_getElem? hw)
      have e1:=q32d d hd k3 k4 k1 k2
      have wi:=q2va (show i<1000000 by omega)
      rw [q2vf hw]
      unfold timS
      by_cases h:w.2.2.2.2.1=id
      · rw [if_pos h]
        simp only [q2qe,q2qm,q2qi,q2qk,q2qo,Dt.eval,q2pi,q2vd hlt,cond_true,q2vc hlt,q2vb hw,show (w.2.2.2.2.1 == id)=true by rw [beq_iff_eq];exact h,e1]
      · rw [if_neg h]
        simp only [q2qe,q2qm,q2qi,q2qk,q2qo,Dt.eval,q2pi,q2vd hlt,cond_true,q2vc hlt,q2vb hw,show (w.2.2.2.2.1 == id)=false by rw [beq_eq_false_iff_ne];exact h,cond_false,wi]
        exact ih (by omega) (by omega)
    · have hkl : i = L.length := by omega
      simp only [q2qe,q2qm,q2qi,q2qk,q2qo,Dt.eval,q2ve hlt,cond_false]
      rw [hkl,List.drop_length]
      rfl
theorem q338 (d:Nat) (hf:5000≤d) (l:List T3) (hl70:l.length≤70) (id:Int) {n dd t u:Int} (hn:i64B n=true) (hd:i64B dd=true) (ht:i64B t=true) (hu:i64B u=true):∃ v,q2h5 d ((l,()),(id,()),(n,dd,()),(t,u,()),())=some v∧q2qr d ((l,()),(id,()),(n,dd,()),(t,u,()),())=some v:=by
  have e1:=q2z6 d l hn hd ht hu
  have e2:=q2z7 d l hn hd ht hu
  have b0:((0:Int) != 0)=false:=rfl
  by_cases hc:chk2 l n dd t u=0
  · obtain ⟨hok, h2, h3, h4⟩ := q2vv hc
    have h0:=q2w8 hc
    have hl64:=hok.len
    have e3:=q32l d (l:=l) (by omega) id
    cases hh:hasT l id with
    | false =>
      obtain ⟨x,y,z,e4⟩:=q334 d h0 hh
      rw [qgb (q333 hh)] at e3
      refine ⟨(0,0,6),?_,?_⟩
      · simp only [q2h5,q2fk,q2fq,q2fu,q2fy,q2g2,q2g6,q2ga,q2gc,q2gg,q2gk,Dt.eval,e1,hc,b0,cond_false,e4,show ((6:Int) != 0)=true from rfl,cond_true]
      · simp only [q2qr,q2pi,q2po,q2ps,q2pw,q2q0,q2q2,q2q6,q2qa,Dt.eval,e2,hc,b0,cond_false,e3,show decide ((-1:Int)<0)=true from rfl,cond_true]
    | true =>
      obtain ⟨p,hp,rfl⟩:=q331.1 hh
      have e4:=q2x2 d hok h0 hp
      obtain ⟨k,_,hk⟩:=q32m hok hp
      rw [hk] at e3
      have ck:decide ((k:Int)<0)=false:=decide_eq_false (by omega)
      have hl:l ≠ []:=fun e=>by rw [e] at hp;cases hp
      have hc1:chk1 l n dd=0:=by unfold chk1;rw [if_neg (by simpa using h0)];exact h2
      have hL:=q2x4 hl n dd
      obtain ⟨a,ha,f3⟩:=q2y7 d hf hl hn hd hc1
      obtain ⟨a',ha',f4⟩:=q2yz d hf hl hn hd h0 h2
      obtain rfl:=Crest.uniq hok ha hL.1 ha'
      have hb:=q2ya hok ha hn hd hL.1
      have hle:=q2yh hok ha h2 hL
      have hck:=q2xw hok ha h2 hL
      obtain ⟨r,hr⟩:=ha.head
      have e5:=q2za d hf hl hn hd ht hu hc f3 hb hck hr
      have e6:=q2zd d hf (n:=n) (dd:=dd) ht hu f4 hb (by omega) hr
      have hlen:=q2z2 t u (n,dd,(ldT l n dd).1,()) r
      have hal:a.length=r.length+1:=by rw [hr];rfl
      have hb5:=q335 ht hu (n,dd,(ldT l n dd).1,()) r (by rw [← hr];exact hb)
      generalize reiL t u (n,dd,(ldT l n dd).1,()) r=L at *
      have g1:=q336 d (by omega) (id:=p.1) hb5 (by omega) d 0 (by omega) (Nat.zero_le _)
      have g2:=q337 d (by omega) (id:=p.1) hb5 (by omega) d 0 (by omega) (Nat.zero_le _)
      refine ⟨timS p.1 (L.drop 0),?_,?_⟩
      · simp only [q2h5, q2fk, q2fq, q2fu, q2fy, q2g2, q2g6, q2ga, q2gc, q2gg, q2gk, Dt.eval, e1, hc, b0, cond_false, e4, e5]
        exact g1
      · simp only [q2qr, q2pi, q2po, q2ps, q2pw, q2q0, q2q2, q2q6, q2qa, Dt.eval, e2, hc, b0, cond_false, e3, ck, e6]
        exact g2
  · have hb : (chk2 l n dd t u != 0) = true := by simpa using hc
    refine ⟨(0,0,chk2 l n dd t u),?_,?_⟩
    · simp only [q2h5,q2fk,q2fq,q2fu,q2fy,q2g2,q2g6,q2ga,q2gc,q2gg,q2gk,Dt.eval,e1,hb,cond_true]
    · simp only [q2qr,q2pi,q2po,q2ps,q2pw,q2q0,q2q2,q2q6,q2qa,Dt.eval,e2,hb,cond_true]
theorem q339 (d:Nat) (l:List T3) (hl70:l.length≤70) {n dd:Int} (hn:i64B n=true) (hd:i64B dd=true):∃ v,q2hz d ((l,()),(n,dd,()),())=some v∧q2sf d ((l,()),(n,dd,()),())=some v∧v.1.length≤70:=by
  have b0:((0:Int) != 0)=false:=rfl
  have e0:qvt d ((l,()),(n,dd,()),())=some (qs5 (ptsL l) n dd):=by
    rw [qvu _ _ (by unfold qvs;simp only [hn,hd,Bool.and_self,Bool.true_and,decide_eq_true_eq];rw [qil];omega)]
  by_cases h0:qs5 (ptsL l) n dd=0
  · have h1:qfx (ptsL l)=0:=by
      unfold qs5 at h0
      refine Classical.byContradiction fun k=>?_
      rw [if_pos k] at h0;exact k h0
    have h2:qcv n dd=0:=by unfold qs5 at h0;rw [if_neg (by simpa using h1)] at h0;exact h0
    have hok:=q2v1 h1
    have hl64:=hok.len
    have e1:=q2x1 d hl64 h1 hn hd h2
    have e2:=q32r d hok h1 hn hd h2
    have hlen:(unI ((ordI n dd (ptsL l)).map Pt.id)).length=l.length:=by unfold unI;rw [List.length_map,List.length_map,q32n]
    generalize unI ((ordI n dd (ptsL l)).map Pt.id)=L at *
    rw [h0] at e0
    have e3:q2rl d ((l,()),(n,dd,()),())=some (L,0):=by
      simp only [q2rl,q2qz,q2r5,q2r9,q2rd,q2rh,q2rj,Dt.eval,e0,b0,cond_false,e2]
    refine ⟨(L.take 3,0),?_,?_,by show (L.take 3).length≤70;rw [List.length_take];omega⟩
    · have ht : tmin (L.length : Int) 3 = ((min L.length 3 : Nat) : Int) := by unfold tmin; split <;> omega
      have c1:(decide ((0:Int)≤((min L.length 3:Nat):Int))&&decide (((min L.length 3:Nat):Int)≤(L.length:Int)))=true:=by
        simp only [Bool.and_eq_true,decide_eq_true_eq];omega
      have c2:L.take (min L.length 3)=L.take 3:=by
        by_cases h3:L.length≤3
        · rw [List.take_of_length_le (by omega),List.take_of_length_le (by omega)]
        · rw [show min L.length 3=3 by omega]
      simp only [q2hz,q2hd,q2hj,q2hn,q2hr,q2hv,q2hx,Dt.eval,e1,b0,cond_false,ht,c1,cond_true,Int.toNat_natCast,c2]
    · by_cases h3 : L.length < 3
      · have c1 : decide ((L.length : Int) < 3) = true := decide_eq_true (by omega)
        simp only [q2sf,q2rt,q2rz,q2s3,q2s7,q2sb,q2sd,Dt.eval,e3,b0,cond_false,c1,cond_true]
        rw [List.take_of_length_le (by omega)]
      · have c1 : decide ((L.length : Int) < 3) = false := decide_eq_false (by omega)
        have c2:(decide ((0:Int)≤3)&&decide ((3:Int)≤(L.length:Int)))=true:=by
          simp only [Bool.and_eq_true,decide_eq_true_eq];omega
        simp only [q2sf,q2rt,q2rz,q2s3,q2s7,q2sb,q2sd,Dt.eval,e3,b0,cond_false,c1,c2,cond_true]
        rfl
  · have hb : (qs5 (ptsL l) n dd != 0) = true := by simpa using h0
    have e1:qwb d ((l,()),(n,dd,()),())=some ([],qs5 (ptsL l) n dd):=by
      rw [qwc _ _ (by unfold qwa;simp only [hn,hd,Bool.and_self,Bool.true_and,decide_eq_true_eq];rw [qil];omega)]
      have e:quq (ptsL l) n dd=([],qs5 (ptsL l) n dd):=by
        unfold quq
        unfold qs5 at h0 ⊢
        by_cases k:qfx (ptsL l)=0
        · rw [if_neg (by simpa using k)] at h0 ⊢
          rw [if_pos h0,if_neg (by simpa using k)]
        · rw [if_pos k,if_pos k]
      show some (unI (quq (ptsL l) n dd).1,(quq (ptsL l) n dd).2)=_
      rw [e];rfl
    have e3:q2rl d ((l,()),(n,dd,()),())=some ([],qs5 (ptsL l) n dd):=by
      simp only [q2rl,q2qz,q2r5,q2r9,q2rd,q2rh,q2rj,Dt.eval,e0,hb,cond_true]
    refine ⟨([],qs5 (ptsL l) n dd),?_,?_,Nat.zero_le _⟩
    · simp only [q2hz,q2hd,q2hj,q2hn,q2hr,q2hv,q2hx,Dt.eval,e1,hb,cond_true]
    · simp only [q2sf,q2rt,q2rz,q2s3,q2s7,q2sb,q2sd,Dt.eval,e3,hb,cond_true]
theorem q33a (d:Nat) (hd:5000≤d) (l:List T3) (id n dd t u:Int) (hn:i64B n=true) (hdd:i64B dd=true) (ht:i64B t=true) (hu:i64B u=true):q2tl d ((l,()),(id,()),(n,dd,()),(t,u,()),())=some true:=by
  have e1:=q2yl d l
  cases hg:great l.length with
  | true =>
    rw [hg] at e1
    simp only [q2tl,q2sn,q2st,q2sx,q2t1,Dt.eval,e1,cond_true]
  | false =>
    rw [hg] at e1
    have hl70:=q2ym hg
    obtain ⟨v,e2,e3⟩:=q338 d hd l hl70 id hn hdd ht hu
    obtain ⟨w,e4,e5,e6⟩:=q339 d l hl70 hn hdd
    have e7:qvb d ((w.1,()),(w.1,()),())=some true:=by
      rw [qvc _ _ (by unfold qva;simp only [Bool.and_eq_true,decide_eq_true_eq];show (idsI w.1).length≤_∧(idsI w.1).length≤_;rw [qik];omega)]
      exact congrArg some (decide_eq_true rfl)
    simp only [q2tl,q2sn,q2st,q2sx,q2t1,q2t5,q2t9,q2td,q2th,q2tj,Dt.eval,e1,cond_false,e2,e3,e4,e5,e7,beq_self_eq_true,Bool.and_self,cond_true]
end Go.Proofs.YtpfhgnccpiildaaGreat

namespace Go
open Go.ChangeShapes Go.WideShapes Go.ChangeAt Go.RowKit
section
variable {H:Type} {enc:TypeId×Value→H} {P:Program} {w:World} {base:Nat} {spare:Nat→Bool} {held:Bool}
theorem q33b {t:TypeId} {fs:Array Field} {fuel:Nat} {cs:List Value} {x:DataW H×List MemPlace} (hs:P.underlying t=some (.struct fs)) (h:DataW.trod enc P w base spare held fuel t cs=some x)
    {i:Nat} {f:Field} (hf:fs[i]?=some f) {off n:Nat} {ft:TypeId} (ho:f.offset=off) (ht:f.type=ft) (hn:P.cellsOf ft=n):∃ m y,DataW.trod enc P w base spare held m ft ((cs.drop off).take n)=some y:=by
  obtain ⟨xs,m,_,_,_,hlen,hg⟩:=DataW.trod_struct hs h
  have h1:=hg i f hf
  subst ho ht hn
  have hi:i<xs.length:=by rw [hlen];exact (Array.getElem?_eq_some_iff.1 hf).1
  exact ⟨m,xs[i],by rw [h1,List.getElem?_eq_getElem hi]⟩
theorem q33c {t:TypeId} {k:IntKind} {fuel:Nat} {cs:List Value} {x:DataW H×List MemPlace} (ht:P.underlying t=some (.int k)) (h:DataW.trod enc P w base spare held fuel t cs=some x):∃ n,cs=[.int k n]∧(Lit.int k n).wf=true:=by
  obtain ⟨n,h1,_,h2⟩:=DataW.trod_int ht h;exact ⟨n,h1,h2⟩
theorem q33d {n:Int} (h:(Lit.int .i64 n).wf=true):-9223372036854775808≤n∧n≤9223372036854775807:=bounds_i64 h
end
end Go
namespace Go.Proofs.YtpfhgnccpiildaaGreat
open Go.ChangeShapes Go.WideShapes Go.ChangeAt Go.RowKit
theorem q33h:ownKnob Tryz.prog.godebug=none:=by kernel_rfl
theorem q33i:laidOutB Tryz.prog=true:=by kernel_rfl
end Go.Proofs.YtpfhgnccpiildaaGreat

namespace Go
open Go.ChangeShapes Go.WideShapes Go.ChangeAt Go.RowKit Go.Deep
theorem q33j {α:Type} {p:Nat→α→Prop}:∀ n:Nat,(∀ i,i<n→∃ v,p i v)→∃ l:List α,l.length=n∧∀ (i:Nat) (x:α),l[i]?=some x→p i x
  | 0,_=>⟨[],rfl,fun i x h=>by simp at h⟩
  | n + 1, h => by
    obtain ⟨l,hl,hp⟩:=q33j n fun i hi=>h i (by omega)
    obtain ⟨v,hv⟩:=h n (by omega)
    refine ⟨l ++ [v],by simp [hl],fun i x hx=>?_⟩
    rcases Nat.lt_or_ge i n with hi | hi
    · rw [List.getElem?_append_left (by omega)] at hx;exact hp i x hx
    · rw [List.getElem?_append_right (by omega)] at hx
      have:i=n:=by
        have:=(List.getElem?_eq_some_iff.1 hx).1
        simp at this;omega
      subst this
      simp [hl] at hx
      subst hx;exact hv
theorem qd {α:Type} {cells:α→List Value} {k:Nat} (hk:∀ a,(cells a).length=k) (h0:0<k):∀ (l:List α) (j:Nat) (u:Value),(l.flatMap cells)[j]?=some u→∃ x,l[j / k]?=some x∧(cells x)[j % k]?=some u
  | [],j,u,h=>by simp at h
  | x :: l, j, u, h => by
    rw [List.flatMap_cons] at h
    rcases Nat.lt_or_ge j k with hj | hj
    · rw [List.getElem?_append_left (by rw [hk]; exact hj)] at h
      rw [Nat.div_eq_of_lt hj,Nat.mod_eq_of_lt hj]
      exact ⟨x,rfl,h⟩
    · rw [List.getElem?_append_right (by rw [hk]; exact hj), hk] at h
      obtain ⟨y,hy,hu⟩:=qd hk h0 l (j - k) u h
      obtain ⟨m,rfl⟩:∃ m,j=m+k:=⟨j - k,by omega⟩
      rw [Nat.add_sub_cancel] at hy hu
      rw [Nat.add_div_right _ h0,Nat.add_mod_right]
      exact ⟨y,by simpa using hy,hu⟩
theorem q9 {α:Type} {cells:α→List Value} {k:Nat} (hk:∀ a,(cells a).length=k) (l:List α):(l.flatMap cells).length=l.length*k:=by
  induction l with
  | nil=>simp
  | cons x l ih=>rw [List.flatMap_cons,List.length_append,ih,hk,List.length_cons,Nat.add_mul];omega
section
variable {H:Type} {enc:TypeId×Value→H} {P:Program} {w:World} {base:Nat} {held:Bool}
theorem q33k {t e:TypeId} {fuel:Nat} {A:Option Addr} {n c:Nat} {x:DataW H×List MemPlace} (ht:P.underlying t=some (.slice e))
    (h:DataW.trod enc P w base (fun _=>true) held fuel t [Value.slice A n c]=some x):A=none→c=0:=by
  rcases open_slice ht h with ⟨hcs,_⟩ | ⟨a,len,cap,m,q,D,Pl,hcs,_⟩
  · simp only [List.cons.injEq, and_true] at hcs
    injection hcs with h1 h2 h3
    intro _;exact h3
  · simp only [List.cons.injEq, and_true] at hcs
    injection hcs with h1 h2 h3
    subst h1;intro h;cases h
theorem q33l {α:Type} (cells:α→List Value) (ok:α→Prop) {t e:TypeId} {k fuel:Nat} {A:Option Addr} {n c:Nat} {x:DataW H×List MemPlace}
    (ht:P.underlying t=some (.slice e)) (hC:P.cellsOf e=k) (h0:0<k) (hk:∀ a,(cells a).length=k)
    (hR:∀ (m:Nat) (l:List Value) (y:DataW H×List MemPlace),DataW.trod enc P w base (fun _=>true) held m e l=some y→l.length=k→∃ a,l=cells a∧ok a)
    (h:DataW.trod enc P w base (fun _=>true) held fuel t [Value.slice A n c]=some x) :
    ∃ l:List α,l.length=n∧Sl w k A l.length c (l.flatMap cells)∧(∀ a∈l,ok a)∧(A=none→c=0)∧c≤maxLen:=by
  rcases open_slice ht h with ⟨hcs,_⟩ | ⟨a,len,cap,m,q,D,Pl,hcs,_,hl,hmx,hm,_,hi⟩
  · simp only [List.cons.injEq, and_true] at hcs
    injection hcs with h1 h2 h3
    subst h1 h2 h3
    exact ⟨[],rfl,Sl.nil_ _ _ _ _,(fun _ h=>by cases h),(fun _=>rfl),Nat.zero_le _⟩
  · simp only [List.cons.injEq, and_true] at hcs
    injection hcs with h1 h2 h3
    subst h1 h2 h3
    simp only [if_true] at hm
    subst hm
    obtain ⟨l,hll,hp⟩:=q33j (α:=α) (p:=fun i v=>(∀ j u,(cells v)[j]?=some u→w.cell? (a.add (i*k+j))=some u)∧ok v) n (fun i hin=>by
      obtain ⟨cs',hc,ht'⟩:=hi i (by omega)
      rw [hC] at hc
      obtain ⟨_,hcl,hat⟩:=World.cells?_some hc
      obtain ⟨v,rfl,hv⟩:=hR _ _ _ ht' hcl
      refine ⟨v,fun j u hu=>?_,hv⟩
      have hj:j<k:=by rw [← hk v];exact (List.getElem?_eq_some_iff.1 hu).1
      rw [← Go.Deep.add_add,hat j hj,hu])
    refine ⟨l,hll,⟨by omega,by rw [q9 hk,hll],fun hn=>?_⟩,fun v hv=>?_,(fun h=>by cases h),hmx⟩
    · obtain ⟨v0, hv0⟩ : ∃ v, l[0]? = some v := ⟨_, List.getElem?_eq_getElem (by omega)⟩
      obtain ⟨u0,hu0⟩:∃ u,(cells v0)[0]?=some u:=⟨_,List.getElem?_eq_getElem (by rw [hk];exact h0)⟩
      have hc0:=(hp 0 v0 hv0).1 0 u0 hu0
      obtain ⟨b,o,spot⟩:=a
      have hspot:spot=none:=by simpa [Addr.add] using World.cell?_spot hc0
      subst hspot
      refine ⟨b,o,rfl,?_,fun j u hu=>?_⟩
      · have hb := World.block_lt_of_cell? w _ hc0
        simpa [Addr.add] using hb
      · obtain ⟨v, hv, huv⟩ := qd hk h0 l j u hu
        have h1:=(hp _ v hv).1 _ u huv
        have e0:j / k*k+j % k=j:=by rw [Nat.mul_comm];exact Nat.div_add_mod j k
        rw [e0] at h1
        have e1:(⟨b,o,none⟩:Addr).add j=⟨b,o+j,none⟩:=by
          unfold Addr.add;split
          · rename_i h0;rw [h0];rfl
          · rfl
        rw [e1] at h1;exact h1
    · obtain ⟨i, hi'⟩ := List.getElem?_of_mem hv
      exact (hp i v hi').2
end
end Go

namespace Go.Proofs.YtpfhgnccpiildaaGreat
open Go.ChangeShapes Go.WideShapes Go.ChangeAt Go.RowKit Go.Pel Go.Deep
theorem q33m {α:Type} (l:List α) (h:l.length=1):∃ a,l=[a]:=by
  match l,h with
  | [a],_=>exact ⟨a,rfl⟩
theorem q33n {α:Type} (l:List α) (h:l.length=2):∃ a b,l=[a,b]:=by
  match l,h with
  | [a,b],_=>exact ⟨a,b,rfl⟩
theorem q33o {α:Type} (l:List α) (h:l.length=3):∃ a b c,l=[a,b,c]:=by
  match l,h with
  | [a,b,c],_=>exact ⟨a,b,c,rfl⟩
section
variable {H:Type} {enc:TypeId×Value→H} {w:World} {base:Nat} {spare:Nat→Bool} {held:Bool}
theorem q33p:Tryz.prog.cellsOf 3=1:=by kernel_rfl
theorem q33q:Tryz.prog.cellsOf 2=1:=by kernel_rfl
theorem q33r:Tryz.prog.cellsOf 79=3:=by kernel_rfl
theorem q33s:Tryz.prog.cellsOf 24=1:=by kernel_rfl
theorem q33t:Tryz.prog.cellsOf 22=1:=by kernel_rfl
theorem q33u {fuel:Nat} {l:List Value} {x:DataW H×List MemPlace} (h:DataW.trod enc Tryz.prog w base spare held fuel 79 l=some x) (hl:l.length=3) :
    ∃ p:Pt,l=[.int .i64 p.id,.int .i64 p.a,.int .i64 p.b]∧p.Fits:=by
  obtain ⟨c0,c1,c2,rfl⟩:=q33o l hl
  obtain ⟨m4,y4,h4⟩:=q33b Tryz.underlying79 h (i:=0) rfl rfl rfl q33p
  obtain ⟨m5,y5,h5⟩:=q33b Tryz.underlying79 h (i:=1) rfl rfl rfl q33q
  obtain ⟨m6,y6,h6⟩:=q33b Tryz.underlying79 h (i:=2) rfl rfl rfl q33q
  obtain ⟨i,e4,w4⟩:=q33c Tryz.underlying3 h4
  obtain ⟨a,e5,w5⟩:=q33c Tryz.underlying2 h5
  obtain ⟨b,e6,w6⟩:=q33c Tryz.underlying2 h6
  simp at e4 e5 e6
  subst e4 e5 e6
  exact ⟨⟨i,a,b⟩,rfl,⟨q33d w4,q33d w5,q33d w6⟩⟩
theorem q33v (fuel:Nat) (l:List Value) (x:DataW H×List MemPlace) (h:DataW.trod enc Tryz.prog w base spare held fuel 79 l=some x) (hl:l.length=3):∃ p:Pt,l=p.cells∧p.Fits:=q33u h hl
theorem q33w {fuel:Nat} {l:List Value} {x:DataW H×List MemPlace} (h:DataW.trod enc Tryz.prog w base (fun _=>true) held fuel 24 l=some x) (hl:l.length=1) :
    ∃ (A:Option Addr) (c:Nat) (m:List Pt),l=[.slice A m.length c]∧Sl w 3 A m.length c (vp m)∧(A=none→c=0)∧∀ p∈m,p.Fits:=by
  obtain ⟨c0,rfl⟩:=q33m l hl
  obtain ⟨m0,y0,h0⟩:=q33b Tryz.underlying24 h (i:=0) rfl rfl rfl q33t
  have h0':DataW.trod enc Tryz.prog w base (fun _=>true) held m0 22 [c0]=some y0:=by simpa using h0
  obtain ⟨A,n,c,rfl⟩:∃ A n c,c0=Value.slice A n c:=by
    rcases open_slice Tryz.underlying22 h0' with ⟨hcs,_⟩ | ⟨a,len,cap,m,q,D,Pl,hcs,_⟩
    · simp only [List.cons.injEq,and_true] at hcs;exact ⟨_,_,_,hcs⟩
    · simp only [List.cons.injEq,and_true] at hcs;exact ⟨_,_,_,hcs⟩
  have hn:=q33k Tryz.underlying22 h0'
  obtain ⟨pts,rfl,hs,hok,_,_⟩:=q33l Pt.cells Pt.Fits Tryz.underlying22 q33r (by decide) (fun _=>rfl) q33v h0'
  exact ⟨A,c,pts,rfl,hs,hn,hok⟩
theorem q33x:Tryz.prog.cellsOf 26=2:=by kernel_rfl
theorem q33y {fuel:Nat} {l:List Value} {x:DataW H×List MemPlace} (h:DataW.trod enc Tryz.prog w base spare held fuel 26 l=some x) (hl:l.length=2) :
    ∃ n d:Int,l=[.int .i64 n,.int .i64 d]∧(-9223372036854775808≤n∧n≤9223372036854775807)∧(-9223372036854775808≤d∧d≤9223372036854775807):=by
  obtain ⟨c0,c1,rfl⟩:=q33n l hl
  obtain ⟨m4,y4,h4⟩:=q33b Tryz.underlying26 h (i:=0) rfl rfl rfl q33q
  obtain ⟨m5,y5,h5⟩:=q33b Tryz.underlying26 h (i:=1) rfl rfl rfl q33q
  obtain ⟨n,e4,w4⟩:=q33c Tryz.underlying2 h4
  obtain ⟨d,e5,w5⟩:=q33c Tryz.underlying2 h5
  simp at e4 e5
  subst e4 e5
  exact ⟨n,d,rfl,q33d w4,q33d w5⟩
end
end Go.Proofs.YtpfhgnccpiildaaGreat
