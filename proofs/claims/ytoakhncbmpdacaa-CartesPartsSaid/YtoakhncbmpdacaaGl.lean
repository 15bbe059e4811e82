/- Walks of the references; the orders agree; examples. -/
import Derived.Test.YtoakhncbmpdacaaGk
set_option linter.unusedSimpArgs false
set_option linter.unusedVariables false
namespace Go.Proofs.Ytoakhncbmpdacaa
open Go Go.Tx Go.Pel
def ps (P M:List N3) (i:Nat):Nat:=(atI (ptsL P) (idN M i)).toNat
theorem q3o8 {P:List N3} (hP:FOk P) {k:Nat} (hk:k<P.length):atI (ptsL P) (ptA P k).1=k:=by
  refine qhz (p:=ofP (ptA P k)) (fun j q hj hq=>?_) (q372 hk) rfl
  rw [q372 (by omega)] at hq
  injection hq with hq
  subst hq
  have:=hP.inc j k hj hk
  show (ptA P j).1≠(ptA P k).1
  omega
theorem ps_k {P M:List N3} (hP:FOk P) {i k:Nat} (hk:k<P.length) (h:idN M i=(ptA P k).1):ps P M i=k:=by
  unfold ps
  rw [h,q3o8 hP hk];rfl
theorem id_k {P:List N3} (hP:FOk P) {i k:Nat} (hi:i<P.length) (hk:k<P.length) (h:(ptA P i).1=(ptA P k).1):i=k:=by
  rcases Nat.lt_trichotomy i k with c | c | c
  · have:=hP.inc i k c hk;omega
  · exact c
  · have:=hP.inc k i c hi;omega
end Go.Proofs.Ytoakhncbmpdacaa

namespace Go.Proofs.Ytoakhncbmpdacaa
open Go Go.Tx Go.Pel
structure AbOk (P M:List N3):Prop where
  lk:LkOk M
  ln:M.length≤64
  at_:∀ i,i<M.length→ps P M i<P.length∧atI (ptsL P) (idN M i)=ps P M i
  ne:∀ i,i<M.length→(0≤lfN M i→ps P M i≠ps P M (lfN M i).toNat)∧(0≤rtN M i→ps P M i≠ps P M (rtN M i).toNat)
section
variable {P:List N3} {n dd:Int}
end
theorem q3oq (d:Nat) (P:List N3) {n dd:Int} (hn:i64B n=true) (hdd:i64B dd=true):q3dd d ((P,()),(n,dd,()),())=some (!great (ptsL P).length&&(qsv (ptsL P) n dd == 0)):=by
  have e1:qq7 d ((P,()),())=some (great (ptsL P).length):=qq8 d _ rfl
  have hpl:(ptsL P).length=P.length:=List.length_map _
  simp only [q3dd,q3d1,q3d7,q3db,Dt.eval,e1]
  cases g:great (ptsL P).length with
  | true=>rfl
  | false =>
    have gl:=q3nl g
    have e3:quq d ((P,()),(n,dd,()),())=some (qsv (ptsL P) n dd):=qur d _ (by unfold qup ptsL;simp only [hn,hdd,Bool.true_and,List.length_map];exact decide_eq_true (by omega))
    simp only [Bool.not_false,cond_true,Dt.eval,e3,Bool.true_and]
end Go.Proofs.Ytoakhncbmpdacaa

namespace Go.Proofs.Ytoakhncbmpdacaa
open Go Go.Tx Go.Pel
set_option maxRecDepth 100000 in
theorem q3os:q2wt 5000 ()=some true:=by kernel_rfl
end Go.Proofs.Ytoakhncbmpdacaa
