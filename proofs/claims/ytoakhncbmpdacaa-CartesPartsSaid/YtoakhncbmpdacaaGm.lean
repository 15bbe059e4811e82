/- Walks of the references; the orders agree; examples. -/
import Derived.Test.YtoakhncbmpdacaaGl
set_option linter.unusedSimpArgs false
set_option linter.unusedVariables false
namespace Go.Pel
open Go Go.RowKit
theorem q3p3 {l:List Pt} {n d:Int} (h:qsv l n d=0):qhk l=0∧qeg n d=0∧qsb l n d=(qrz n d l,0):=by
  unfold qsv at h
  by_cases h1:qhk l=0
  · rw [if_neg (by simpa using h1)] at h
    refine ⟨h1,h,?_⟩
    unfold qsb;rw [if_neg (by simpa using h1),if_neg (by simpa using h)]
  · rw [if_pos h1] at h;exact absurd h h1
end Go.Pel

namespace Go.Proofs.Ytoakhncbmpdacaa
open Go.RowKit Go.Pel
end Go.Proofs.Ytoakhncbmpdacaa

namespace Go.Pel
open Go Go.RowKit
end Go.Pel
namespace Go.Proofs.Ytoakhncbmpdacaa
open Go.RowKit Go.Pel
end Go.Proofs.Ytoakhncbmpdacaa

namespace Go.Pel
open Go Go.RowKit
theorem q3p9 (l:List Pt):incB l=true↔l.Pairwise fun p q=>p.id<q.id:=by
  constructor
  · intro h; rw [List.pairwise_iff_getElem]; intro i j hi hj hij
    exact qhj h hij (List.getElem?_eq_getElem hi) (List.getElem?_eq_getElem hj)
  · intro h; rw [qhi]; intro i p q hp hq
    obtain ⟨h1,e1⟩:=List.getElem?_eq_some_iff.1 hp
    obtain ⟨h2,e2⟩:=List.getElem?_eq_some_iff.1 hq
    rw [← e1,← e2];exact List.pairwise_iff_getElem.1 h i (i+1) h1 h2 (by omega)
theorem q3pi {l:List Pt} {p:Pt} (h:p∈l):hasB l p.id=true:=by
  unfold hasB;rw [List.any_eq_true];exact ⟨p,h,by simp⟩
theorem q3pj {l:List Pt} {id:Int} (h:hasB l id=true):∃ p,p∈l∧p.id=id:=by
  unfold hasB at h;rw [List.any_eq_true] at h
  obtain ⟨p,hp,he⟩:=h;exact ⟨p,hp,by simpa using he⟩
def insP (l:List Pt) (p:Pt):List Pt:=l.take (lowB l p.id)++p :: l.drop (lowB l p.id)
theorem q5w {l:List Pt} (h:qhk l=0) {p:Pt} (hp:p.chk=0) (hb:hasB l p.id=false) (hl:l.length≠64):qi3 l p=(insP l p,0):=by
  unfold qi3
  rw [if_neg (by simpa using h),if_neg (by simpa using hp),hb,if_neg hl];rfl
end Go.Pel
